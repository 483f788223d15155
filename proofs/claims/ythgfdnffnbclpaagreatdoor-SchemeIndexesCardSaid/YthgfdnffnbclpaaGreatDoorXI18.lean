import Derived.Test.YthgfdnffnbclpaaGreatDoorXI04
import Derived.Test.YthgfdnffnbclpaaGreatDoorXI17
import Derived.Lib.SlicesSearch
set_option linter.unusedVariables false
set_option linter.unusedSimpArgs false
namespace Go.Proofs.YthgfdnffnbclpaaGreatDoor.PAll
open Go.RowKit Go.Proofs.YthgfdnffnbclpaaGreatDoorW.PrintWords Go.Proofs.YthgfdnffnbclpaaGreatDoorW.PrintLast Go.Proofs.YthgfdnffnbclpaaGreatDoorW.PrintMore

/-- One number of an own row: where it lies, and the row with another in its place. -/
theorem R_num {W : World} {base : Nat} {ok : Nat → Prop} {g n cap : Nat} {xs : List Int} (h : Kd.R (Kd.int .i64) 3 W base ok (.slice (some ⟨g, 0, none⟩) n cap) xs) (i : Nat) (hi : i < xs.length) :
    W.cell? ⟨g, i, none⟩ = some (.int .i64 (xs.getD i 0)) ∧ W.frozen? ⟨g, i, none⟩ = false ∧ ∀ u : Int, Kd.R (Kd.int .i64) 3 (W.setCell ⟨g, i, none⟩ (.int .i64 u)) base ok (.slice (some ⟨g, 0, none⟩) n cap) (xs.set i u) := by
  have hn := (Kd.R_reads' h).1
  obtain ⟨c, hcl, hM, hcc⟩ := Kd.R_getA h (0 : Int) (i : Int) (by omega) (by omega)
  have hM2 : c = [.int .i64 (xs.getD i 0)] := by rw [Int.toNat_natCast] at hM; exact hM
  subst hM2
  have h1 := hcc 0 _ rfl
  rw [add_plain] at h1
  have h2 : W.cell? ⟨g, i, none⟩ = some (.int .i64 (xs.getD i 0)) := by
    have e : ((i : Int).toNat * (Kd.int .i64).sz + 0) = i := by rw [Int.toNat_natCast]; exact Nat.mul_one i
    rw [e] at h1; exact h1
  obtain ⟨g', cap', ev, _, _, cells, hgc⟩ := Kd.R_form h (by omega)
  simp only [Value.slice.injEq, Option.some.injEq, Addr.mk.injEq, and_true] at ev
  obtain ⟨⟨rfl, _⟩, _, _⟩ := ev
  refine ⟨h2, blk_frozen hgc _, fun u => ?_⟩
  obtain ⟨s1, s2⟩ := Kd.R_seg h (i : Int) (by omega) (by omega) (c := [.int .i64 (xs.getD i 0)]) (seg := [.int .i64 u]) (j := 0) rfl (fun j q hj => by have := hcc j q hj; rwa [add_plain] at this) (by show 0 + 1 ≤ 1; omega) (x' := u) (okp := fun _ => False) rfl (fun k hk => hk.elim)
  have e : ((i : Int).toNat * (Kd.int .i64).sz + 0) = i := by rw [Int.toNat_natCast]; exact Nat.mul_one i
  rw [e, Int.toNat_natCast] at s1
  exact s1

set_option maxHeartbeats 4000000 in
set_option maxRecDepth 100000 in
theorem sorted_walk (A0 : Option Addr) (c0 : Nat) (l r : List Int) (w : World) (hC : Kd.C (Kd.int .i64) w A0 l.length l) (hc : l.length ≤ c0) (hl : l.length ≤ 3000000) (hr : r.Perm l) (hrs : r.Pairwise (· ≤ ·)) :
    Calls Tryz.prog 43 #[.slice A0 l.length c0] w fun e w' => ∃ v, e = .returned v ∧ Kd.R (Kd.int .i64) 3 w' w.heap.size (fun _ => True) v r ∧ Below w.heap.size w w' := by
  have HC := Aside0.mk hC
  have HW := Aside0.mk (Below.refl w.heap.size w)
  have HRP := Aside0.mk hr
  have HRS := Aside0.mk hrs
  clear hC hr hrs
  go_enter Tryz.func43, Tryz.ntmps43
  go_wp2_with (first
    | ((with_reducible refine gate_dst (N := 7) rfl ?_); refine Kd.R_lit (Kd.int .i64) _ 3 ?hg (N := 7) ?hd (xs := ([] : List (Int))) (inner := []) (ok := fun _ => True) (okp := fun _ => True) ?hr ?hp (fun _ hk => hk) trivial (Below.refl _ _) (Nat.le_refl _) (by simp) ?_; (case hd => rfl); (case hg => rfl); (case hr => first | (go_simp; done) | (go_simp; rfl)); (case hp => exact (Reps.none _ _)); intro v5 w6 ho7 hb hg_ hnew_; clear hg_ hnew_; have HO5 := Aside0.mk (Kd.R_lower ho7 (below_size HW.out)); have n2_ := Aside0.mk (below_step HW.out hb); clear HW; have HW := n2_; clear n2_ hb ho7)
    | ((with_reducible refine gate_builtin (b := .append) (xs := #[.tmp 7, .tmp 8]) rfl ?_); at_builtin; refine Kd.R_append_rows (Kd.int .i64) (w0 := w) w.heap.size rfl (.tmp 7) (.tmp 8) 70 3 (.int .i64 0) 8 rfl Tryz.underlying70 info3 rfl (by decide) (by omega) v5 [] l _ _ _ (fun _ => True) (fun _ => False) rfl rfl ?aO ?aR (fun _ _ h => h) (fun _ h => h.elim) ?aF ?aB ?aS ?aL ?_; (case aR => exact Kd.C_below HC.out HW.out); (case aB => exact HW.out); (case aF => exact (fun _ _ => trivial)); (case aO => exact HO5.out); (case aS => exact below_size HW.out); (case aL => simp; omega); intro v7 w8 ho hb hg hat; rw [List.nil_append] at ho; obtain ⟨A9, c9, e9⟩ := Kd.R_slice ho; subst e9; have HO7 := Aside0.mk ho; have HB8 := Aside0.mk hb; clear ho hb hg hat))
  clear HO5 HW
  go_loopg [4] l.length (fun gk v4 wx => ∃ (i : Nat) (cur : List Int), i + gk = l.length ∧ v4 = .int .i64 i ∧ Aside0 (cur.Perm l) ∧ Aside0 (Upto cur i) ∧ Aside0 (Kd.R (Kd.int .i64) 3 wx w.heap.size (fun _ => True) (.slice A9 l.length c9) cur) ∧ Aside0 (Below w.heap.size w wx))
  case atStart => exact ⟨0, l, by omega, rfl, ⟨List.Perm.refl _⟩, ⟨upto_zero _⟩, HO7, HB8⟩
  case round =>
    clear HO7 HB8
    obtain ⟨i, cur, hi, rfl, HP, HU, HO, HB⟩ := hrel
    have HCL := Aside0.mk HP.out.length_eq
    cases gk with
    | zero =>
      have hii : ¬ (i : Int) < (l.length : Int) := by omega
      have e : r = cur := sort_one _ _ (HRP.out.trans HP.out.symm) HRS.out (upto_sorted (by rw [HCL.out]; rw [show l.length = i by omega]; exact HU.out))
      have HO2 : Aside0 (Kd.R (Kd.int .i64) 3 wr w.heap.size (fun _ => True) (.slice A9 l.length c9) r) := ⟨by rw [e]; exact HO.out⟩
      clear e
      go_wp2
      go_ret
      exact ⟨_, rfl, HO2.out, HB.out⟩
    | succ gk =>
      have hii : (i : Int) < (l.length : Int) := by omega
      have hi0 : (0 : Int) ≤ (i : Int) := by omega
      obtain ⟨g, cap, ev, _⟩ := Kd.R_form HO.out (by rw [HCL.out]; omega)
      rw [HCL.out] at ev
      simp only [Value.slice.injEq, true_and] at ev
      obtain ⟨eA, eC⟩ := ev
      subst eA
      subst eC
      have HLS : Aside0 (Least cur i (i + 1)) := ⟨least_start _ _⟩
      go_wp2
      clear HCL
      go_loopg [5] (l.length - (i + 1)) (fun gj v5 wx => ∃ (j : Nat) (cur : List Int), j + gj = l.length ∧ i < j ∧ v5 = .int .i64 j ∧ Aside0 (cur.Perm l) ∧ Aside0 (Upto cur i) ∧ Aside0 (Least cur i j) ∧ Aside0 (Kd.R (Kd.int .i64) 3 wx w.heap.size (fun _ => True) (.slice (some ⟨g, 0, none⟩) l.length c9) cur) ∧ Aside0 (Below w.heap.size w wx))
      case atStart => exact ⟨i + 1, cur, by omega, by omega, rfl, HP, HU, HLS, HO, HB⟩
      case round =>
        clear HP HU HLS HO HB
        obtain ⟨j, cu, hj, hij, rfl, HP, HU, HLS, HO, HB⟩ := hrel
        have HCL := Aside0.mk HP.out.length_eq
        cases gk with
        | zero =>
          have hjj : ¬ (j : Int) < (l.length : Int) := by omega
          have HU2 : Aside0 (Upto cu (i + 1)) := ⟨upto_next HU.out (by rw [HCL.out, show l.length = j by omega]; exact HLS.out)⟩
          clear HU HLS HCL
          go_wp2
          go_roundg gk
          case measure => omega
          case rel => exact ⟨i + 1, cu, by omega, by first | rfl | (simp; done) | (simp; unfold wrap64; omega), HP, HU2, HO, HB⟩
        | succ gj =>
          have hjl : j < cu.length := by rw [HCL.out]; omega
          have hil : i < cu.length := by rw [HCL.out]; omega
          have hjj : (j : Int) < (l.length : Int) := by omega
          have hj0 : (0 : Int) ≤ (j : Int) := by omega
          obtain ⟨xj, fj, _⟩ := R_num HO.out j hjl
          obtain ⟨xi, fi, hsi⟩ := R_num HO.out i hil
          by_cases q : cu.getD j 0 < cu.getD i 0
          · have hex : exch cu i j = (cu.set i (cu.getD j 0)).set j (cu.getD i 0) := rfl
            have HO2 : Aside0 (∀ nq, Kd.R (Kd.int .i64) 3 (((wr.drewN nq).setCell ⟨g, i, none⟩ (.int .i64 (cu.getD j 0))).setCell ⟨g, j, none⟩ (.int .i64 (cu.getD i 0))) w.heap.size (fun _ => True) (.slice (some ⟨g, 0, none⟩) l.length c9) (exch cu i j)) := ⟨fun nq => by
              have h3 := (R_num (Kd.R_drewN HO.out nq) i hil).2.2 (cu.getD j 0)
              exact (R_num h3 j (by rw [List.length_set]; exact hjl)).2.2 (cu.getD i 0)⟩
            have hgb : w.heap.size ≤ g := Kd.R_base HO.out g (by simp [Value.ownBlock])
            have HB2 : Aside0 (∀ nq, Below w.heap.size w (((wr.drewN nq).setCell ⟨g, i, none⟩ (.int .i64 (cu.getD j 0))).setCell ⟨g, j, none⟩ (.int .i64 (cu.getD i 0)))) := ⟨fun nq => below_set (below_set (below_step HB.out (pw_below_drewN (Below.refl _ _) nq)) hgb) hgb⟩
            have HP2 : Aside0 ((exch cu i j).Perm l) := ⟨(exch_perm cu i j hil hjl).trans HP.out⟩
            have HU2 : Aside0 (Upto (exch cu i j) i) := ⟨upto_exch HU.out hij hjl⟩
            have HL2 : Aside0 (Least (exch cu i j) i (j + 1)) := ⟨least_exch HLS.out hij hjl q⟩
            have d1 : decide (cu.getD j 0 < cu.getD i 0) = true := decide_eq_true q
            have hne : i ≠ j := by omega
            clear q hex hsi HP HU HLS HO HB HCL
            generalize cu.getD j 0 = yj at *
            generalize cu.getD i 0 = yi at *
            generalize exch cu i j = cu2 at *
            go_wp2
            go_quiet (fail)
            go_wp2
            have HO3 := Aside0.mk (HO2.out nq)
            have HB3 := Aside0.mk (HB2.out nq)
            go_roundg gj
            case measure => omega
            case rel => exact ⟨j + 1, cu2, by omega, by omega, by first | rfl | (simp; done) | (simp; unfold wrap64; omega), HP2, HU2, HL2, HO3, HB3⟩
          · have d1 : decide (cu.getD j 0 < cu.getD i 0) = false := decide_eq_false q
            have HL2 : Aside0 (Least cu i (j + 1)) := ⟨least_keep HLS.out q⟩
            have HOq : Aside0 (∀ nq, Kd.R (Kd.int .i64) 3 (wr.drewN nq) w.heap.size (fun _ => True) (.slice (some ⟨g, 0, none⟩) l.length c9) cu) := ⟨fun nq => Kd.R_drewN HO.out nq⟩
            have HBq : Aside0 (∀ nq, Below w.heap.size w (wr.drewN nq)) := ⟨fun nq => below_step HB.out (pw_below_drewN (Below.refl _ _) nq)⟩
            clear q hsi HLS HO HB HCL
            generalize cu.getD j 0 = yj at *
            generalize cu.getD i 0 = yi at *
            go_wp2
            go_quiet (fail)
            go_wp2
            have HO3 := Aside0.mk (HOq.out nq)
            have HB3 := Aside0.mk (HBq.out nq)
            go_roundg gj
            case measure => omega
            case rel => exact ⟨j + 1, cu, by omega, by omega, by first | rfl | (simp; done) | (simp; unfold wrap64; omega), HP, HU, HL2, HO3, HB3⟩
end Go.Proofs.YthgfdnffnbclpaaGreatDoor.PAll
namespace Go.Proofs.YthgfdnffnbclpaaGreatDoor.PAll
open Go.RowKit Go.Proofs.YthgfdnffnbclpaaGreatDoorW.PrintWords Go.Proofs.YthgfdnffnbclpaaGreatDoorW.PrintLast Go.Proofs.YthgfdnffnbclpaaGreatDoorW.PrintMore

def setIx (t : S49) (l : List Int) : S49 := ⟨t.f0, t.f1, t.f2, t.f3, l⟩
theorem S_ix {W : World} {base : Nat} {ok : Nat → Prop} {g n cap : Nat} {s : List S49} (h : Kd.S k49a 72 W base ok (.slice (some ⟨g, 0, none⟩) n cap) s) (m : Nat) (t : S49) (hm : s[m]? = some t) :
    ∃ (okx : Nat → Prop) (A4 : Option Addr) (c4 : Nat), W.cell? ⟨g, m * 5 + 4, none⟩ = some (.slice A4 t.f4.length c4) ∧ Kd.R (Kd.int .i64) 3 W base okx (.slice A4 t.f4.length c4) t.f4 ∧ (∀ k, okx k → ok k ∧ k ≠ g) ∧ g < W.heap.size ∧ base ≤ g ∧
      ∀ (W1 : World) (l : List Int) (v : Value), W.heap.size ≤ W1.heap.size → (∀ k, k < W.heap.size → ¬ okx k → W1.heap[k]? = W.heap[k]?) → Kd.R (Kd.int .i64) 3 W1 base (fun k => okx k ∨ ok k ∧ W.heap.size ≤ k) v l →
        W1.cell? ⟨g, m * 5 + 4, none⟩ = some (.slice A4 t.f4.length c4) ∧ W1.frozen? ⟨g, m * 5 + 4, none⟩ = false ∧ Kd.S k49a 72 (W1.setCell ⟨g, m * 5 + 4, none⟩ v) base ok (.slice (some ⟨g, 0, none⟩) n cap) (s.set m (setIx t l)) := by
  have hml := (List.getElem?_eq_some_iff.1 hm).1
  have hn := (Kd.S_reads' h).1
  obtain ⟨oki, c, hcl, hM, hcc, hoki, hH⟩ := Kd.S_lend h z49 (m : Int) (by omega) (by omega)
  rw [Int.toNat_natCast, List.getD_eq_getElem?_getD, hm] at hM
  obtain ⟨P, v1, v2, v3, v4, rfl, g1, g2, g3, g4⟩ := hM
  obtain ⟨A4, c4, rfl⟩ := Kd.R_slice g4
  have h0 := hcc 4 _ rfl
  rw [Int.toNat_natCast] at h0
  have hx : W.cell? ⟨g, m * 5 + 4, none⟩ = some (.slice A4 t.f4.length c4) := h0
  obtain ⟨cells, hgc⟩ := Kd.S_typed h g (by simp [Value.ownBlock])
  have hgs := blk_lt hgc
  refine ⟨fun k => oki k ∧ P k, A4, c4, hx, g4, fun k hk => hoki k hk.1, hgs, Kd.S_base h g (by simp [Value.ownBlock]), fun W1 l v hsz hfar hv => ?_⟩
  have hgc1 := (hfar g hgs (fun hk => (hoki g hk.1).2 rfl)).trans hgc
  refine ⟨(blk_cell hgc1 _).trans ((blk_cell hgc _).symm.trans hx), blk_frozen hgc1 _, ?_⟩
  have e1 := Kd.R_mono (Kd.R_step (Kd.R_bound g1) (fun k hk hlt => hfar k hlt (fun h2 => hk.1.2 h2.2))) (ok' := fun k => (oki k ∨ ok k ∧ W.heap.size ≤ k) ∧ ¬ (P k ∨ W.heap.size ≤ k)) (fun k hk => ⟨Or.inl hk.1.1, fun h2 => h2.elim hk.1.2 (fun h3 => by have := hk.2.2.1; omega)⟩)
  have e2 := Kd.R_mono (Kd.R_step (Kd.R_bound g2) (fun k hk hlt => hfar k hlt (fun h2 => hk.1.2 h2.2))) (ok' := fun k => (oki k ∨ ok k ∧ W.heap.size ≤ k) ∧ ¬ (P k ∨ W.heap.size ≤ k)) (fun k hk => ⟨Or.inl hk.1.1, fun h2 => h2.elim hk.1.2 (fun h3 => by have := hk.2.2.1; omega)⟩)
  have e3 := Kd.R_mono (Kd.R_step (Kd.R_bound g3) (fun k hk hlt => hfar k hlt (fun h2 => hk.1.2 h2.2))) (ok' := fun k => (oki k ∨ ok k ∧ W.heap.size ≤ k) ∧ ¬ (P k ∨ W.heap.size ≤ k)) (fun k hk => ⟨Or.inl hk.1.1, fun h2 => h2.elim hk.1.2 (fun h3 => by have := hk.2.2.1; omega)⟩)
  have e4 := Kd.R_mono hv (ok' := fun k => (oki k ∨ ok k ∧ W.heap.size ≤ k) ∧ (P k ∨ W.heap.size ≤ k)) (fun k hk => hk.elim (fun h2 => ⟨Or.inl h2.1, Or.inl h2.2⟩) (fun h2 => ⟨Or.inr h2, Or.inr h2.2⟩))
  have hM2 : MA W1 base (fun k => oki k ∨ ok k ∧ W.heap.size ≤ k) (setIx t l) ([Value.string t.f0, v1, v2, v3, Value.slice A4 t.f4.length c4].take 4 ++ [v] ++ [Value.string t.f0, v1, v2, v3, Value.slice A4 t.f4.length c4].drop (4 + [v].length)) := ⟨fun k => P k ∨ W.heap.size ≤ k, v1, v2, v3, v, rfl, e1, e2, e3, e4⟩
  have := (Kd.S_seg0 (Kd.H_step (Kd.H_widen hH) (fun k ho hn hlt => hfar k hlt (fun h2 => hn (Or.inl h2.1)))) (by omega) (by omega) (seg := [v]) (j := 4) (by show 4 + 1 ≤ 5; omega) (x' := setIx t l) hM2 (fun k hk => hk)).1
  rw [Int.toNat_natCast] at this
  exact this

set_option maxHeartbeats 4000000 in
set_option maxRecDepth 100000 in
theorem refCopy_walk (A0 : Option Addr) (c0 : Nat) (s : List S49) (w : World) (hS : Kd.C k49 w A0 s.length s) (hc0 : s.length ≤ c0) (hs : smallSch s) :
    Calls Tryz.prog 19 #[.slice A0 s.length c0] w fun e w' => ∃ v0_ : Value, e = .returned (v0_) ∧ Kd.S k49a 72 w' w.heap.size (fun _ => True) v0_ s ∧ Below w.heap.size w w' := by
  have HS := Aside0.mk hS
  have HSM := Aside0.mk hs
  have hs2 := hs.1
  have HB0 := Aside0.mk (Below.refl w.heap.size w)
  have HT0 : Aside0 (Kd.S k49a 72 w w.heap.size (fun _ => True) (.slice none 0 0) (s.take 0)) := ⟨by simpa using Kd.S_nil k49a _ _ _ _⟩
  clear hS hs
  go_enter Tryz.func19, Tryz.ntmps19
  go_wp2
  go_loopg [3, 4] s.length (fun gk v3 v4 wx => ∃ (m : Nat), m + gk = s.length ∧ v4 = .int .i64 m ∧ Aside0 (Kd.S k49a 72 wx w.heap.size (fun _ => True) v3 (s.take m)) ∧ Aside0 (Below w.heap.size w wx))
  case atStart => exact ⟨0, by omega, rfl, HT0, HB0⟩
  case round =>
    clear HT0 HB0
    obtain ⟨m, hm, rfl, HT, HB⟩ := hrel
    cases gk with
    | zero =>
      have hmi : ¬ (m : Int) < (s.length : Int) := by omega
      have e : s.take m = s := List.take_of_length_le (by omega)
      rw [e] at HT
      clear e
      go_wp2
      go_ret
      exact ⟨_, rfl, HT.out, HB.out⟩
    | succ gk =>
      have hlt : m < s.length := by omega
      have hmi : (m : Int) < (s.length : Int) := by omega
      have hm0 : (0 : Int) ≤ (m : Int) := by omega
      obtain ⟨aa, P1, p1, P2, p2, P3, p3, P4, p4, haa, z0, z1, z2, z3, z4, m1, C1, m2, C2, m3, C3, m4, C4⟩ := at_T49 HS.out (m : Int) hm0 hmi
      subst haa
      have hrd : rd_T49 s (m : Int) = s[m] := by unfold rd_T49; simp [List.getD, hlt]
      rw [hrd] at z0 z1 z2 z3 z4 m1 C1 m2 C2 m3 C3 m4 C4
      rw [Int.toNat_natCast] at z0 z1 z2 z3 z4
      replace z0 := (HB.out.cell (World.block_lt_of_cell? w _ z0)).trans z0
      replace z1 := (HB.out.cell (World.block_lt_of_cell? w _ z1)).trans z1
      replace z2 := (HB.out.cell (World.block_lt_of_cell? w _ z2)).trans z2
      replace z3 := (HB.out.cell (World.block_lt_of_cell? w _ z3)).trans z3
      replace z4 := (HB.out.cell (World.block_lt_of_cell? w _ z4)).trans z4
      have HN := Aside0.mk (copyTableA_walk s[m] P1 p1 P2 p2 P3 p3 P4 p4 wr (Kd.C_below C1 HB.out) m1 (Kd.C_below C2 HB.out) m2 (Kd.C_below C3 HB.out) m3 (Kd.C_below C4 HB.out) m4 (HSM.out.2 _ (List.getElem_mem hlt)))
      have HLT := Aside0.mk (take_snoc hlt)
      have hpl : (s.take m).length ≤ 2000000 := by rw [List.length_take]; omega
      clear C1 C2 C3 C4 hrd
      generalize s[m] = x at *
      generalize s.take m = pre at *
      go_wp2_with (first
        | (go_at_call 32; refine HN.out.mono ?_; rintro e w3 ⟨v1, v2, v3, v4, rfl, hM3, hb3⟩; obtain ⟨A5, c5, A6, c6, A7, c7, A8, c8, e5, e6, e7, e8⟩ := MA_slices hM3; subst e5 e6 e7 e8; have HM3 := Aside0.mk hM3; have HT3 := Aside0.mk (Kd.S_old HT.out hb3); have HB3 := Aside0.mk (below_step HB.out hb3); have HBW : Aside0 (w.heap.size ≤ wr.heap.size) := ⟨HB.out.size⟩; clear hM3 hb3)
        | ((with_reducible refine gate_builtin (b := .append) (xs := #[.tmp 11, .tmp 17]) rfl ?_); at_builtin; refine Kd.S_append k49a (w0 := w) w.heap.size rfl (.tmp 11) (.tmp 17) 23 72 (.agg #[(.string ⟨#[]⟩), (.slice none 0 0), (.slice none 0 0), (.slice none 0 0), (.slice none 0 0)]) 112 rfl Tryz.underlying23 info72 rfl (by decide) (by omega) u3 pre x [Value.string x.f0, Value.slice A5 x.f1.length c5, Value.slice A6 x.f2.length c6, Value.slice A7 x.f3.length c7, Value.slice A8 x.f4.length c8] (fun _ => True) (fun k_ => wr.heap.size ≤ k_) rfl rfl ?aP ?aQ (fun _ _ => trivial) ?aO HB3.out HB3.out.size (by omega) ?_; (case aP => exact k49a.M_lower HBW.out (k49a.M_mono (fun k hk => hk.2.1) (k49a.M_bound HM3.out))); (case aQ => exact fun k hk => ⟨trivial, fun he => by have := Kd.S_lt HT.out k he.symm; omega⟩); (case aO => exact Kd.S_mono HT3.out (fun k hk => ⟨trivial, fun h9 => by have := hk.2; omega⟩)); intro v16 w5 hv16 hb5 hg5 hat5; have HV16 := Aside0.mk hv16; have HB5 := Aside0.mk hb5; clear hv16 hb5 hg5 hat5))
      go_roundg gk
      case measure => omega
      case rel => exact ⟨m + 1, by omega, by first | rfl | (simp; done) | (simp; unfold wrap64; omega), ⟨by rw [HLT.out]; exact HV16.out⟩, HB5⟩
end Go.Proofs.YthgfdnffnbclpaaGreatDoor.PAll
namespace Go.Proofs.YthgfdnffnbclpaaGreatDoor.PAll
open Go.RowKit Go.Proofs.YthgfdnffnbclpaaGreatDoorW.PrintWords Go.Proofs.YthgfdnffnbclpaaGreatDoorW.PrintLast Go.Proofs.YthgfdnffnbclpaaGreatDoorW.PrintMore

def insI (c : Int) (l : List Int) : List Int := l.takeWhile (· < c) ++ c :: l.dropWhile (· < c)
def addG (v : Bool) (s : List S49) (nm cn : ByteArray) : List S49 × Int :=
  if (placeG v s nm cn).2.2 = 0 then
    if (rd_T49 s (placeG v s nm cn).1).f4.any (· == (placeG v s nm cn).2.1) = true then ([], 70)
    else (s.set (placeG v s nm cn).1.toNat (setIx (rd_T49 s (placeG v s nm cn).1) (insI (placeG v s nm cn).2.1 (rd_T49 s (placeG v s nm cn).1).f4)), 0)
  else ([], (placeG v s nm cn).2.2)
def rmvG (v : Bool) (s : List S49) (nm cn : ByteArray) : List S49 × Int :=
  if (placeG v s nm cn).2.2 = 0 then
    if (rd_T49 s (placeG v s nm cn).1).f4.any (· == (placeG v s nm cn).2.1) = true then
      (s.set (placeG v s nm cn).1.toNat (setIx (rd_T49 s (placeG v s nm cn).1) ((rd_T49 s (placeG v s nm cn).1).f4.filter (· != (placeG v s nm cn).2.1))), 0)
    else ([], 71)
  else ([], (placeG v s nm cn).2.2)
theorem insI_perm (c : Int) (l : List Int) : (insI c l).Perm (l ++ [c]) := by
  unfold insI
  have h : l.takeWhile (· < c) ++ l.dropWhile (· < c) = l := List.takeWhile_append_dropWhile
  have h1 : (l.takeWhile (· < c) ++ c :: l.dropWhile (· < c)).Perm (c :: (l.takeWhile (· < c) ++ l.dropWhile (· < c))) := List.perm_middle
  rw [h] at h1
  exact h1.trans (List.perm_append_singleton c l).symm
theorem drop_ge (c : Int) : ∀ (l : List Int), l.Pairwise (· ≤ ·) → ∀ x ∈ l.dropWhile (· < c), c ≤ x
  | [], _, x, h => by simp at h
  | a :: l, hp, x, h => by
    rw [List.pairwise_cons] at hp
    rw [List.dropWhile_cons] at h
    split at h
    · exact drop_ge c l hp.2 x h
    · rename_i q
      have hca : c ≤ a := by simpa using q
      rcases List.mem_cons.1 h with e | h
      · omega
      · have := hp.1 x h; omega
theorem take_lt (c : Int) : ∀ (l : List Int), ∀ x ∈ l.takeWhile (· < c), x < c
  | [], x, h => by simp at h
  | a :: l, x, h => by
    rw [List.takeWhile_cons] at h
    split at h
    · rename_i q
      rcases List.mem_cons.1 h with e | h
      · subst e; simpa using q
      · exact take_lt c l x h
    · cases h
theorem insI_sorted (c : Int) (l : List Int) (h : l.Pairwise (· ≤ ·)) : (insI c l).Pairwise (· ≤ ·) := by
  unfold insI
  have e : l.takeWhile (· < c) ++ l.dropWhile (· < c) = l := List.takeWhile_append_dropWhile
  have h2 := h
  rw [← e, List.pairwise_append] at h2
  rw [List.pairwise_append, List.pairwise_cons]
  refine ⟨h2.1, ⟨fun x hx => drop_ge c l h x hx, h2.2.1⟩, fun a ha b hb => ?_⟩
  have h3 := take_lt c l a ha
  rcases List.mem_cons.1 hb with e | hb
  · omega
  · exact h2.2.2 a ha b hb

set_option maxHeartbeats 4000000 in
set_option maxRecDepth 100000 in
theorem refAdd_walk (A0 : Option Addr) (c0 : Nat) (s : List S49) (nm cn : ByteArray) (v : Bool) (w : World) (hS : Kd.C k49 w A0 s.length s) (hc0 : s.length ≤ c0) (hv : refValidP s = some v) (hsm : v = true → smallSch s ∧ ∀ t ∈ s, t.f4.Pairwise (· ≤ ·)) :
    Calls Tryz.prog 13 #[.slice A0 s.length c0, .string nm, .string cn] w fun e w' => ∃ v0 : Value, e = .returned (.tuple #[v0, .int .i64 (addG v s nm cn).2]) ∧ Kd.S k49a 72 w' w.heap.size (fun _ => True) v0 (addG v s nm cn).1 ∧ Below w.heap.size w w' := by
  have HP := Aside0.mk (refPlace_walk A0 c0 s nm cn v w hS hc0 hv)
  have HS := Aside0.mk hS
  have HSM := Aside0.mk hsm
  clear hS hv hsm
  unfold addG
  have hrng := fun n c h => placeG_range (v := v) (s := s) (nm := nm) (cn := cn) (n := n) (c := c) h
  generalize placeG v s nm cn = p at *
  obtain ⟨pn, pc, pe⟩ := p
  simp only at HP
  by_cases q : pe = 0
  case neg =>
    have d1 : (pe == 0) = false := beq_eq_false_iff_ne.mpr q
    have d2 : (pe != 0) = true := by rw [bne, d1]; rfl
    simp only [if_neg q]
    clear q hrng
    go_enter Tryz.func13, Tryz.ntmps13
    go_wp2_with (go_at_call 41; refine HP.out.mono ?_; rintro e w1 ⟨rfl, hb1⟩)
    go_ret2
    exact ⟨_, rfl, Kd.S_nil _ _ _ _ _, hb1⟩
  subst q
  obtain ⟨rfl, hn0, hns, hc0', hcl⟩ := hrng pn pc rfl
  clear hrng
  obtain ⟨hss, hso⟩ := HSM.out rfl
  obtain ⟨n, rfl⟩ : ∃ m : Nat, pn = (m : Int) := ⟨pn.toNat, by omega⟩
  have hlt : n < s.length := by omega
  simp only [if_pos, Int.toNat_natCast]
  rw [rdT49 hlt]
  obtain ⟨aa, P1, p1, P2, p2, P3, p3, P4, p4, haa, z0, z1, z2, z3, z4, m1, C1, m2, C2, m3, C3, m4, C4⟩ := at_T49 HS.out (n : Int) hn0 hns
  subst haa
  rw [rdT49 hlt] at z0 z1 z2 z3 z4 m1 C1 m2 C2 m3 C3 m4 C4
  rw [Int.toNat_natCast] at z0 z1 z2 z3 z4
  have hgt : s[n]? = some s[n] := List.getElem?_eq_getElem hlt
  have HPW := Aside0.mk (hso s[n] (List.getElem_mem hlt))
  have hl4 : s[n].f4.length ≤ 2000000 := (hss.2 s[n] (List.getElem_mem hlt)).2.2.2
  have HSS := Aside0.mk hss
  have HGT := Aside0.mk hgt
  clear hgt hso hss hcl
  generalize s[n] = t at *
  have HK : Aside0 (∀ W, Below w.heap.size w W → W.cell? (aa.add (n * 5)) = some (.string t.f0) ∧ W.cell? ⟨(aa.add (n * 5)).block, (aa.add (n * 5)).off + 1, none⟩ = some (.slice P1 t.f1.length p1) ∧ W.cell? ⟨(aa.add (n * 5)).block, (aa.add (n * 5)).off + 2, none⟩ = some (.slice P2 t.f2.length p2) ∧ W.cell? ⟨(aa.add (n * 5)).block, (aa.add (n * 5)).off + 3, none⟩ = some (.slice P3 t.f3.length p3) ∧ W.cell? ⟨(aa.add (n * 5)).block, (aa.add (n * 5)).off + 4, none⟩ = some (.slice P4 t.f4.length p4)) := ⟨fun W hW => ⟨(hW.cell (World.block_lt_of_cell? w _ z0)).trans z0, (hW.cell (World.block_lt_of_cell? w _ z1)).trans z1, (hW.cell (World.block_lt_of_cell? w _ z2)).trans z2, (hW.cell (World.block_lt_of_cell? w _ z3)).trans z3, (hW.cell (World.block_lt_of_cell? w _ z4)).trans z4⟩⟩
  have HI : Aside0 (∀ W, Below w.heap.size w W → Calls Tryz.prog 42 #[.agg #[.string t.f0, .slice P1 t.f1.length p1, .slice P2 t.f2.length p2, .slice P3 t.f3.length p3, .slice P4 t.f4.length p4], .int .i64 pc] W fun e w' => e = .returned (.bool (t.f4.any (· == pc))) ∧ Below W.heap.size W w') := ⟨fun W hW => hasIndex_walk _ _ _ _ _ _ _ _ _ _ _ _ _ pc W (Kd.C_below C4 hW) m4⟩
  clear z0 z1 z2 z3 z4 m1 C1 m2 C2 m3 C3 m4 C4
  cases hany : t.f4.any (· == pc) with
  | true =>
    simp only [if_pos]
    rw [hany] at HI
    clear hany
    go_enter Tryz.func13, Tryz.ntmps13
    go_wp2_with (first | (go_at_call 41; refine HP.out.mono ?_; rintro e w1 ⟨rfl, hb1⟩; obtain ⟨y0, y1, y2, y3, y4⟩ := HK.out _ hb1) | (go_at_call 42; refine (HI.out _ hb1).mono ?_; rintro e w2 ⟨rfl, hb2⟩))
    go_ret2
    exact ⟨_, rfl, Kd.S_nil _ _ _ _ _, below_step hb1 hb2⟩
  | false =>
    rw [hany] at HI
    clear hany
    rw [if_neg (by decide)]
    have HCP : Aside0 (∀ W, Below w.heap.size w W → Calls Tryz.prog 19 #[.slice (some aa) s.length c0] W fun e w' => ∃ v0_ : Value, e = .returned (v0_) ∧ Kd.S k49a 72 w' W.heap.size (fun _ => True) v0_ s ∧ Below W.heap.size W w') := ⟨fun W hW => refCopy_walk (some aa) c0 s W (Kd.C_below HS.out hW) hc0 HSS.out⟩
    have HDP : Aside0 (0 < s.length) := ⟨by omega⟩
    go_enter Tryz.func13, Tryz.ntmps13
    go_upto_region 7 with (first | (go_at_call 41; refine HP.out.mono ?_; rintro e w1 ⟨rfl, hb1⟩; obtain ⟨y0, y1, y2, y3, y4⟩ := HK.out _ hb1) | (go_at_call 42; refine (HI.out _ hb1).mono ?_; rintro e w2 ⟨rfl, hb2⟩) | (go_at_call 19; refine (HCP.out _ (below_step hb1 hb2)).mono ?_; rintro e w3 ⟨v3, rfl, hv3, hb3⟩; obtain ⟨g, cap, ev, hg1, hg2, gcells, hgc⟩ := Kd.S_form hv3 HDP.out; subst ev))
    have HB3 := Aside0.mk (below_step (below_step hb1 hb2) hb3)
    obtain ⟨okx, A4, c4, hx4, hR4, hok4, hgs, hgb, hput⟩ := S_ix (Kd.S_lower hv3 (below_step hb1 hb2).size) n t HGT.out
    have HR4 := Aside0.mk hR4
    have HPUT := Aside0.mk hput
    clear hb1 hb2 hb3 y0 y1 y2 y3 y4 hv3 hg1 hg2 hgc hR4 hput HP HI HCP HK
    obtain ⟨W3, hW3⟩ : ∃ W : World, W = w3 := ⟨_, rfl⟩
    have hxw : w3.cell? ⟨g, n * 5 + 4, none⟩ = some (.slice A4 t.f4.length c4) := hx4
    go_upto_region 8 with ((with_reducible refine gate_builtin (b := .append) (xs := #[.tmp 37, .tmp 39]) rfl ?_); at_builtin; refine Kd.R_append (Kd.int .i64) (w0 := w) w.heap.size rfl (.tmp 37) (.tmp 39) 70 3 (.int .i64 0) 8 rfl Tryz.underlying70 info3 rfl (by decide) (by omega) (.slice A4 t.f4.length c4) t.f4 pc [.int .i64 pc] (fun k_ => okx k_ ∨ w3.heap.size ≤ k_) (fun _ => False) rfl rfl rfl (fun _ h => h.elim) (fun _ hk => Or.inr hk) (Kd.R_mono HR4.out (fun _ hk => Or.inl hk)) HB3.out HB3.out.size (by omega) ?_; intro v5 w5 hv5 hb5 hg5 _; obtain ⟨A5, c5, e5⟩ := Kd.R_slice hv5; rw [List.length_append, List.length_singleton] at e5; subst e5; obtain ⟨hc5, hf5, hS5⟩ := HPUT.out w5 (t.f4 ++ [pc]) (.slice A5 (t.f4.length + 1) c5) hg5.size (fun k hk hn => hg5.block k hk (fun he => hn (HR4.out.1 k he.symm))) (Kd.R_mono hv5 (fun k hk => hk.elim Or.inl (fun h => Or.inr ⟨trivial, h⟩))))
    obtain ⟨W6, hW6⟩ : ∃ W, W = w5.setCell ⟨g, n * 5 + 4, none⟩ (.slice A5 (t.f4.length + 1) c5) := ⟨_, rfl⟩
    have hb6 : Below w.heap.size w W6 := by rw [hW6]; exact Below.setCell hb5 (by show w.heap.size ≤ g; exact hgb) _
    have hR6 : Kd.R (Kd.int .i64) 3 W6 w.heap.size (fun k => okx k ∨ w3.heap.size ≤ k) (.slice A5 (t.f4.length + 1) c5) (t.f4 ++ [pc]) := by rw [hW6]; exact Kd.R_far hv5 (fun k hk => hk.elim (fun h => (hok4 k h).2) (fun h => by show k ≠ g; omega)) _
    rw [← hW6] at hS5
    rw [← hW6]
    have hlg : (setIx t (t.f4 ++ [pc])).f4.length = t.f4.length + 1 := by simp [setIx]
    obtain ⟨okx2, A6, c6, hx6, hR6b, hok6, hgs6, hgb6, hput6⟩ := S_ix hS5 n (setIx t (t.f4 ++ [pc])) (List.getElem?_set_self (by omega))
    rw [hlg] at hx6
    obtain ⟨hl7, hcap7, hC7⟩ := Kd.R_reads' hR6b
    have hCC : Kd.C (Kd.int .i64) W6 A6 (t.f4 ++ [pc]).length (t.f4 ++ [pc]) := hC7
    have hsw := sorted_walk A6 c6 (t.f4 ++ [pc]) (insI pc t.f4) W6 hCC (by have : (t.f4 ++ [pc]).length ≤ c6 := hcap7; exact this) (by simp; omega) (insI_perm _ _) (insI_sorted _ _ HPW.out)
    rw [List.length_append, List.length_singleton] at hsw
    have HSW := Aside0.mk hsw
    have HB6 := Aside0.mk hb6
    have HPUT6 := Aside0.mk hput6
    clear hW6 hW3 hc5 hf5 hS5 hv5 hb5 hg5 hxw hx4 hb6 hR6 hlg hR6b hl7 hcap7 hC7 hCC hsw hput6 HPUT HR4 HB3
    go_upto_region 9 with (go_at_call 43; refine HSW.out.mono ?_; rintro e w7 ⟨v7, rfl, hv7, hb7⟩; obtain ⟨A7, c7, e7⟩ := Kd.R_slice hv7; subst e7; obtain ⟨hc7, hf7, hS7⟩ := HPUT6.out w7 (insI pc t.f4) (.slice A7 (insI pc t.f4).length c7) hb7.size (fun k hk hn => hb7.block k hk) (Kd.R_lower (Kd.R_mono (Kd.R_bound hv7) (fun k hk => Or.inr ⟨trivial, hk.2.1⟩)) HB6.out.size))
    have hB7 : Aside0 (Below w.heap.size w (w7.setCell ⟨g, n * 5 + 4, none⟩ (.slice A7 (insI pc t.f4).length c7))) := ⟨Below.setCell (below_step HB6.out hb7) (by show w.heap.size ≤ g; exact hgb) _⟩
    have HS7 := Aside0.mk hS7
    clear hS7 hc7 hf7 hv7 hb7 hx6
    go_wp2
    go_ret2
    refine ⟨_, rfl, ?_, hB7.out⟩
    have := HS7.out
    rw [List.set_set] at this
    exact this

set_option maxHeartbeats 4000000 in
set_option maxRecDepth 100000 in
theorem refRmv_walk (A0 : Option Addr) (c0 : Nat) (s : List S49) (nm cn : ByteArray) (v : Bool) (w : World) (hS : Kd.C k49 w A0 s.length s) (hc0 : s.length ≤ c0) (hv : refValidP s = some v) (hsm : v = true → smallSch s) :
    Calls Tryz.prog 15 #[.slice A0 s.length c0, .string nm, .string cn] w fun e w' => ∃ v0 : Value, e = .returned (.tuple #[v0, .int .i64 (rmvG v s nm cn).2]) ∧ Kd.S k49a 72 w' w.heap.size (fun _ => True) v0 (rmvG v s nm cn).1 ∧ Below w.heap.size w w' := by
  have HP := Aside0.mk (refPlace_walk A0 c0 s nm cn v w hS hc0 hv)
  have HS := Aside0.mk hS
  have HSM := Aside0.mk hsm
  clear hS hv hsm
  unfold rmvG
  have hrng := fun n c h => placeG_range (v := v) (s := s) (nm := nm) (cn := cn) (n := n) (c := c) h
  generalize placeG v s nm cn = p at *
  obtain ⟨pn, pc, pe⟩ := p
  simp only at HP
  by_cases q : pe = 0
  case neg =>
    have d1 : (pe == 0) = false := beq_eq_false_iff_ne.mpr q
    have d2 : (pe != 0) = true := by rw [bne, d1]; rfl
    simp only [if_neg q]
    clear q hrng
    go_enter Tryz.func15, Tryz.ntmps15
    go_wp2_with (go_at_call 41; refine HP.out.mono ?_; rintro e w1 ⟨rfl, hb1⟩)
    go_ret2
    exact ⟨_, rfl, Kd.S_nil _ _ _ _ _, hb1⟩
  subst q
  obtain ⟨rfl, hn0, hns, hc0', hcl⟩ := hrng pn pc rfl
  clear hrng
  have hss := HSM.out rfl
  obtain ⟨n, rfl⟩ : ∃ m : Nat, pn = (m : Int) := ⟨pn.toNat, by omega⟩
  have hlt : n < s.length := by omega
  simp only [if_pos, Int.toNat_natCast]
  rw [rdT49 hlt]
  obtain ⟨aa, P1, p1, P2, p2, P3, p3, P4, p4, haa, z0, z1, z2, z3, z4, m1, C1, m2, C2, m3, C3, m4, C4⟩ := at_T49 HS.out (n : Int) hn0 hns
  subst haa
  rw [rdT49 hlt] at z0 z1 z2 z3 z4 m1 C1 m2 C2 m3 C3 m4 C4
  rw [Int.toNat_natCast] at z0 z1 z2 z3 z4
  have hgt : s[n]? = some s[n] := List.getElem?_eq_getElem hlt
  have hl4 : s[n].f4.length ≤ 2000000 := (hss.2 s[n] (List.getElem_mem hlt)).2.2.2
  have HSS := Aside0.mk hss
  have HGT := Aside0.mk hgt
  clear hgt hss hcl
  generalize s[n] = t at *
  have HK : Aside0 (∀ W, Below w.heap.size w W → W.cell? (aa.add (n * 5)) = some (.string t.f0) ∧ W.cell? ⟨(aa.add (n * 5)).block, (aa.add (n * 5)).off + 1, none⟩ = some (.slice P1 t.f1.length p1) ∧ W.cell? ⟨(aa.add (n * 5)).block, (aa.add (n * 5)).off + 2, none⟩ = some (.slice P2 t.f2.length p2) ∧ W.cell? ⟨(aa.add (n * 5)).block, (aa.add (n * 5)).off + 3, none⟩ = some (.slice P3 t.f3.length p3) ∧ W.cell? ⟨(aa.add (n * 5)).block, (aa.add (n * 5)).off + 4, none⟩ = some (.slice P4 t.f4.length p4)) := ⟨fun W hW => ⟨(hW.cell (World.block_lt_of_cell? w _ z0)).trans z0, (hW.cell (World.block_lt_of_cell? w _ z1)).trans z1, (hW.cell (World.block_lt_of_cell? w _ z2)).trans z2, (hW.cell (World.block_lt_of_cell? w _ z3)).trans z3, (hW.cell (World.block_lt_of_cell? w _ z4)).trans z4⟩⟩
  have HI : Aside0 (∀ W, Below w.heap.size w W → Calls Tryz.prog 42 #[.agg #[.string t.f0, .slice P1 t.f1.length p1, .slice P2 t.f2.length p2, .slice P3 t.f3.length p3, .slice P4 t.f4.length p4], .int .i64 pc] W fun e w' => e = .returned (.bool (t.f4.any (· == pc))) ∧ Below W.heap.size W w') := ⟨fun W hW => hasIndex_walk _ _ _ _ _ _ _ _ _ _ _ _ _ pc W (Kd.C_below C4 hW) m4⟩
  clear z0 z1 z2 z3 z4 m1 C1 m2 C2 m3 C3 m4 C4
  cases hany : t.f4.any (· == pc) with
  | false =>
    rw [if_neg (by decide)]
    rw [hany] at HI
    clear hany
    go_enter Tryz.func15, Tryz.ntmps15
    go_wp2_with (first | (go_at_call 41; refine HP.out.mono ?_; rintro e w1 ⟨rfl, hb1⟩; obtain ⟨y0, y1, y2, y3, y4⟩ := HK.out _ hb1) | (go_at_call 42; refine (HI.out _ hb1).mono ?_; rintro e w2 ⟨rfl, hb2⟩))
    go_ret2
    exact ⟨_, rfl, Kd.S_nil _ _ _ _ _, below_step hb1 hb2⟩
  | true =>
    rw [hany] at HI
    clear hany
    simp only [if_pos]
    have HCP : Aside0 (∀ W, Below w.heap.size w W → Calls Tryz.prog 19 #[.slice (some aa) s.length c0] W fun e w' => ∃ v0_ : Value, e = .returned (v0_) ∧ Kd.S k49a 72 w' W.heap.size (fun _ => True) v0_ s ∧ Below W.heap.size W w') := ⟨fun W hW => refCopy_walk (some aa) c0 s W (Kd.C_below HS.out hW) hc0 HSS.out⟩
    have HDP : Aside0 (0 < s.length) := ⟨by omega⟩
    go_enter Tryz.func15, Tryz.ntmps15
    go_upto_region 8 with (first | (go_at_call 41; refine HP.out.mono ?_; rintro e w1 ⟨rfl, hb1⟩; obtain ⟨y0, y1, y2, y3, y4⟩ := HK.out _ hb1) | (go_at_call 42; refine (HI.out _ hb1).mono ?_; rintro e w2 ⟨rfl, hb2⟩) | (go_at_call 19; refine (HCP.out _ (below_step hb1 hb2)).mono ?_; rintro e w3 ⟨v3, rfl, hv3, hb3⟩; obtain ⟨g, cap, ev, hg1, hg2, gcells, hgc⟩ := Kd.S_form hv3 HDP.out; subst ev))
    have HB3 := Aside0.mk (below_step (below_step hb1 hb2) hb3)
    obtain ⟨okx, A4, c4, hx4, hR4, hok4, hgs, hgb, hput⟩ := S_ix (Kd.S_lower hv3 (below_step hb1 hb2).size) n t HGT.out
    have HR4 := Aside0.mk hR4
    have HPUT := Aside0.mk hput
    have HX4 := Aside0.mk hx4
    have HO0 : Aside0 (Kd.R (Kd.int .i64) 3 w3 w.heap.size (fun k => w3.heap.size ≤ k) (.slice none 0 0) ((t.f4.take 0).filter (· != pc))) := ⟨by simpa using Kd.R_nil _ _ _ _ _⟩
    have HW0 := Aside0.mk (Below.refl w3.heap.size w3)
    clear hb1 hb2 hb3 y0 y1 y2 y3 y4 hv3 hg1 hg2 hgc hR4 hput HP HI HCP HK hx4
    go_wp2
    go_loopg [12, 13] t.f4.length (fun gk v12 v13 wx => ∃ (i : Nat), i + gk = t.f4.length ∧ v13 = .int .i64 i ∧ Aside0 (Kd.R (Kd.int .i64) 3 wx w.heap.size (fun k => w3.heap.size ≤ k) v12 ((t.f4.take i).filter (· != pc))) ∧ Aside0 (Below w3.heap.size w3 wx))
    case atStart => exact ⟨0, by omega, rfl, HO0, HW0⟩
    case round =>
      clear HO0 HW0
      obtain ⟨i, hi, rfl, HO, HW⟩ := hrel
      have hx4 := (HW.out.cell (World.block_lt_of_cell? w3 _ HX4.out)).trans HX4.out
      cases gk with
      | zero =>
        have hii : ¬ (i : Int) < (t.f4.length : Int) := by omega
        have e : t.f4.take i = t.f4 := List.take_of_length_le (by omega)
        rw [e] at HO
        obtain ⟨A5, c5, e5⟩ := Kd.R_slice HO.out
        subst e5
        obtain ⟨hc5, hf5, hS5⟩ := HPUT.out wr (t.f4.filter (· != pc)) (.slice A5 (t.f4.filter (· != pc)).length c5) HW.out.size (fun k hk _ => HW.out.block k hk) (Kd.R_mono HO.out (fun k hk => Or.inr ⟨trivial, hk⟩))
        have hB7 : Aside0 (Below w.heap.size w (wr.setCell ⟨g, n * 5 + 4, none⟩ (.slice A5 (t.f4.filter (· != pc)).length c5))) := ⟨Below.setCell (below_step HB3.out HW.out) (by show w.heap.size ≤ g; exact hgb) _⟩
        have HS7 := Aside0.mk hS5
        clear hS5 e HO HW HPUT HX4 HR4
        generalize hfl : t.f4.filter (· != pc) = fl at *
        have HFL := Aside0.mk hfl
        clear hfl
        go_wp2
        go_ret2
        refine ⟨_, rfl, ?_, hB7.out⟩
        have e := HFL.out
        subst e
        exact HS7.out
      | succ gk =>
        have hlti : i < t.f4.length := by omega
        have hii : (i : Int) < (t.f4.length : Int) := by omega
        have hi0 : (0 : Int) ≤ (i : Int) := by omega
        obtain ⟨g4, cap4, ev4, _⟩ := Kd.R_form HR4.out (by omega)
        simp only [Value.slice.injEq, true_and] at ev4
        obtain ⟨eA, eC⟩ := ev4
        subst eA
        subst eC
        have hxi := (R_num HR4.out i hlti).1
        have hyi := (HW.out.cell (World.block_lt_of_cell? w3 _ hxi)).trans hxi
        have hgd : t.f4.getD i 0 = t.f4[i] := by simp [List.getD, hlti]
        rw [hgd] at hyi
        have HTK := Aside0.mk (take_snoc hlti)
        have hpl : ((t.f4.take i).filter (· != pc)).length ≤ 2000000 := Nat.le_trans (List.length_filter_le _ _) (by rw [List.length_take]; omega)
        clear hxi hgd
        generalize t.f4[i] = y at *
        by_cases qy : y = pc
        · have d1 : (y == pc) = true := beq_iff_eq.mpr qy
          have d2 : (y != pc) = false := by rw [bne, d1]; rfl
          have HO2 : Aside0 (Kd.R (Kd.int .i64) 3 wr w.heap.size (fun k => w3.heap.size ≤ k) u12 ((t.f4.take (i + 1)).filter (· != pc))) := ⟨by
            rw [HTK.out, List.filter_append, List.filter_cons_of_neg (p := fun x => x != pc) (by rw [d2]; decide), List.filter_nil, List.append_nil]
            exact HO.out⟩
          clear qy HO HTK hpl
          go_wp2
          go_roundg gk
          case measure => omega
          case rel => exact ⟨i + 1, by omega, by first | rfl | (simp; done) | (simp; unfold wrap64; omega), HO2, HW⟩
        · have d1 : (y == pc) = false := beq_eq_false_iff_ne.mpr qy
          have d2 : (y != pc) = true := by rw [bne, d1]; rfl
          have HFL : Aside0 ((t.f4.take (i + 1)).filter (· != pc) = (t.f4.take i).filter (· != pc) ++ [y]) := ⟨by
            rw [HTK.out, List.filter_append, List.filter_cons_of_pos (p := fun x => x != pc) d2, List.filter_nil]⟩
          have hBw : Aside0 (Below w.heap.size w wr) := ⟨below_step HB3.out HW.out⟩
          have HSZ : Aside0 (w3.heap.size ≤ wr.heap.size) := ⟨HW.out.size⟩
          clear qy HTK
          generalize (t.f4.take i).filter (· != pc) = pre at *
          go_wp2_with ((with_reducible refine gate_builtin (b := .append) (xs := #[.tmp 54, .tmp 63]) rfl ?_); at_builtin; refine Kd.R_append (Kd.int .i64) (w0 := w) w.heap.size rfl (.tmp 54) (.tmp 63) 70 3 (.int .i64 0) 8 rfl Tryz.underlying70 info3 rfl (by decide) (by omega) u12 pre y [.int .i64 y] (fun k_ => w3.heap.size ≤ k_) (fun _ => False) rfl rfl rfl (fun _ h => h.elim) (fun _ hk => Nat.le_trans HSZ.out hk) HO.out hBw.out hBw.out.size (by omega) ?_; intro v5 w5 hv5 hb5 hg5 _; have HV5 := Aside0.mk hv5; have HW5 := Aside0.mk (HW.out.grown hg5 HSZ.out (fun k hk => HO.out.1 k hk)); clear hv5 hb5 hg5)
          go_roundg gk
          case measure => omega
          case rel => exact ⟨i + 1, by omega, by first | rfl | (simp; done) | (simp; unfold wrap64; omega), ⟨by rw [HFL.out]; exact HV5.out⟩, HW5⟩
end Go.Proofs.YthgfdnffnbclpaaGreatDoor.PAll
namespace Go.Proofs.YthgfdnffnbclpaaGreatDoor.PAll
open Go.RowKit Go.Proofs.YthgfdnffnbclpaaGreatDoorW.PrintWords Go.Proofs.YthgfdnffnbclpaaGreatDoorW.PrintLast Go.Proofs.YthgfdnffnbclpaaGreatDoorW.PrintMore

theorem nan_walk (x : Int) (w : World) : Calls Tryz.prog 140 #[.int .i64 x] w fun e w' => e = .returned (.bool false) ∧ w = w' := by
  go_enter Tryz.func140, Tryz.ntmps140
  go_wp2
  go_ret
  exact ⟨by simp, rfl⟩
theorem nan2_walk (x : Int) (w : World) : Calls Tryz.prog 93 #[.int .i64 x] w fun e w' => e = .returned (.bool false) ∧ w = w' := by
  go_enter Tryz.func93, Tryz.ntmps93
  go_wp2
  go_ret
  exact ⟨by simp, rfl⟩
theorem less_walk (x y : Int) (w : World) : Calls Tryz.prog 92 #[.int .i64 x, .int .i64 y] w fun e w' => e = .returned (.bool (decide (x < y))) ∧ w = w' := by
  go_enter Tryz.func92, Tryz.ntmps92
  go_wp2_with (go_at_call 140; refine (nan_walk _ _).mono ?_; rintro e w' ⟨rfl, rfl⟩)
  go_ret
  exact ⟨rfl, rfl⟩
def atI (c : Int) (l : List Int) : Nat := l.countP (· < c)
set_option maxHeartbeats 4000000 in
set_option maxRecDepth 100000 in
theorem search_walk (A : Option Addr) (cap : Nat) (l : List Int) (x : Int) (w : World) (hC : Kd.C (Kd.int .i64) w A l.length l) (hcap : l.length ≤ cap) (hl : l.length ≤ 3000000) (hs : l.Pairwise (· ≤ ·)) :
    Calls Tryz.prog 45 #[.slice A l.length cap, .int .i64 x] w fun e w' => e = .returned (.tuple #[.int .i64 (atI x l : Nat), .bool (l.any (· == x))]) ∧ Below w.heap.size w w' := by
  have S : Aside0 (∀ a b, a ≤ b → b < l.length → l.getD a 0 ≤ l.getD b 0) := ⟨Go.Lib.sorted_at l l.length (Nat.le_refl _) (by rw [List.take_length]; exact hs)⟩
  have HC := Aside0.mk hC
  have HANY : Aside0 (l.any (· == x) = l.contains x) := ⟨by
    rw [Bool.eq_iff_iff, List.contains_iff_mem, List.any_eq_true]
    exact ⟨fun ⟨y, h1, h2⟩ => by rw [beq_iff_eq] at h2; rw [← h2]; exact h1, fun h => ⟨x, h, by simp⟩⟩⟩
  clear hs hC
  go_enter Tryz.func45, Tryz.ntmps45
  go_wp2
  go_loopg [7, 8] l.length (fun g s7 s8 wr => ∃ lo hi q : Nat, s7 = .int .i64 lo ∧ s8 = .int .i64 hi ∧ lo ≤ hi ∧ hi ≤ l.length ∧ hi - lo ≤ g ∧ wr = w.drewN q ∧ Aside0 ((∀ t, t < lo → l.getD t 0 < x) ∧ (∀ t, hi ≤ t → t < l.length → x ≤ l.getD t 0)))
  case atStart => exact ⟨0, l.length, 0, rfl, rfl, Nat.zero_le _, Nat.le_refl _, by omega, rfl, ⟨fun t ht => absurd ht (Nat.not_lt_zero _), fun t h1 h2 => by omega⟩⟩
  case round =>
    obtain ⟨lo, hi, q, rfl, rfl, hlh, hin, hg, rfl, I⟩ := hrel
    by_cases hlt : lo < hi
    · obtain ⟨ad, hA, cm⟩ := Kd.at_int HC.out (((lo + hi) / 2 : Nat) : Int) (by omega) (by omega)
      subst hA
      rw [show rd l (((lo + hi) / 2 : Nat) : Int) = l.getD ((lo + hi) / 2) 0 by unfold rd; rw [Int.toNat_natCast], Int.toNat_natCast] at cm
      generalize hy : l.getD ((lo + hi) / 2) 0 = y at cm
      have Y := Aside0.mk hy
      clear hy
      by_cases hyx : y < x
      · go_wp2_with (first | (go_at_call 92; refine (less_walk _ _ _).mono ?_; rintro e w' ⟨rfl, rfl⟩) | (go_at_call 93; refine (nan2_walk _ _).mono ?_; rintro e w' ⟨rfl, rfl⟩))
        go_roundg (hi - ((lo + hi) / 2 + 1))
        case measure => omega
        case rel =>
          refine ⟨(lo + hi) / 2 + 1, hi, _, by rw [show ((lo : Int) + (hi : Int)) / 2 + 1 = (((lo + hi) / 2 + 1 : Nat) : Int) by omega], rfl, by omega, hin, Nat.le_refl _, rfl, ⟨fun t ht => ?_, I.out.2⟩⟩
          have := S.out t ((lo + hi) / 2) (by omega) (by omega)
          rw [Y.out] at this
          omega
      · go_wp2_with (first | (go_at_call 92; refine (less_walk _ _ _).mono ?_; rintro e w' ⟨rfl, rfl⟩) | (go_at_call 93; refine (nan2_walk _ _).mono ?_; rintro e w' ⟨rfl, rfl⟩))
        go_roundg ((lo + hi) / 2 - lo)
        case measure => omega
        case rel =>
          refine ⟨lo, (lo + hi) / 2, _, rfl, by rw [show ((lo : Int) + (hi : Int)) / 2 = (((lo + hi) / 2 : Nat) : Int) by omega], by omega, by omega, Nat.le_refl _, rfl, ⟨I.out.1, fun t ht htn => ?_⟩⟩
          have := S.out ((lo + hi) / 2) t ht htn
          rw [Y.out] at this
          omega
    · have : hi = lo := by omega
      subst this
      obtain ⟨e1, e2⟩ := Go.Lib.search_end l l.length hi x (Nat.le_refl _) hin I.out.1 I.out.2 S.out
      rw [List.take_length] at e1 e2
      have E : Aside0 (atI x l = hi ∧ l.any (· == x) = decide (hi < l.length ∧ l.getD hi 0 = x)) := ⟨e1, HANY.out.trans e2⟩
      have HBQ : Aside0 (∀ q, Below w.heap.size w (w.drewN q)) := ⟨fun q => pw_below_drewN (Below.refl _ _) q⟩
      clear e1 e2 HANY
      by_cases hn : hi < l.length
      · obtain ⟨ad, hA, cl⟩ := Kd.at_int HC.out (hi : Int) (by omega) (by omega)
        subst hA
        rw [show rd l (hi : Int) = l.getD hi 0 by unfold rd; rw [Int.toNat_natCast], Int.toNat_natCast] at cl
        generalize hy : l.getD hi 0 = y at cl
        have Y := Aside0.mk hy
        clear hy
        by_cases hyx : y = x
        · go_wp2_with (first | (go_at_call 92; refine (less_walk _ _ _).mono ?_; rintro e w' ⟨rfl, rfl⟩) | (go_at_call 93; refine (nan2_walk _ _).mono ?_; rintro e w' ⟨rfl, rfl⟩))
          go_ret2
          refine ⟨?_, HBQ.out _⟩
          rw [E.out.1, E.out.2, Y.out, decide_eq_true (show hi < l.length ∧ y = x from ⟨hn, hyx⟩)]
          first | rfl | simp [*]
        · go_wp2_with (first | (go_at_call 92; refine (less_walk _ _ _).mono ?_; rintro e w' ⟨rfl, rfl⟩) | (go_at_call 93; refine (nan2_walk _ _).mono ?_; rintro e w' ⟨rfl, rfl⟩))
          go_ret2
          refine ⟨?_, HBQ.out _⟩
          rw [E.out.1, E.out.2, Y.out, decide_eq_false (show ¬ (hi < l.length ∧ y = x) from fun h => hyx h.2)]
          first | rfl | simp [*]
      · go_wp2_with (first | (go_at_call 92; refine (less_walk _ _ _).mono ?_; rintro e w' ⟨rfl, rfl⟩) | (go_at_call 93; refine (nan2_walk _ _).mono ?_; rintro e w' ⟨rfl, rfl⟩))
        go_ret2
        refine ⟨?_, HBQ.out _⟩
        rw [E.out.1, E.out.2, decide_eq_false (show ¬ (hi < l.length ∧ l.getD hi 0 = x) from fun h => hn h.1)]
        first | rfl | simp [*]
end Go.Proofs.YthgfdnffnbclpaaGreatDoor.PAll
