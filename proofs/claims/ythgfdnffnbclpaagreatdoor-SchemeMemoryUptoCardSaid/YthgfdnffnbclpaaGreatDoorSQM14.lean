import Derived.Test.YthgfdnffnbclpaaGreatDoorSQM06
import Derived.Test.YthgfdnffnbclpaaGreatDoorSQM13
import Derived.Test.YthgfdnffnbclpaaGreatDoorSQM11
import Derived.Test.YthgfdnffnbclpaaGreatDoorSQM04
import Derived.Lib.SlicesSearch
set_option linter.unusedVariables false
set_option linter.unusedSimpArgs false
namespace Go.Proofs.YthgfdnffnbclpaaGreatDoor.PAll
open Go.RowKit Go.Proofs.YthgfdnffnbclpaaGreatDoorW.PrintWords Go.Proofs.YthgfdnffnbclpaaGreatDoorW.PrintLast Go.Proofs.YthgfdnffnbclpaaGreatDoorW.PrintMore

def placeG (v : Bool) (s : List S49) (nm cn : ByteArray) : Int × Int × Int :=
  if v = true then (if findP nm 0 s < 0 then (0, 0, 71) else if colP cn 0 (rd_T49 s (findP nm 0 s)).f1 < 0 then (0, 0, 71) else (findP nm 0 s, colP cn 0 (rd_T49 s (findP nm 0 s)).f1, 0)) else (0, 0, 1)
theorem placeG_range {v : Bool} {s : List S49} {nm cn : ByteArray} {n c : Int} (h : placeG v s nm cn = (n, c, 0)) : v = true ∧ 0 ≤ n ∧ n < s.length ∧ 0 ≤ c ∧ c < (rd_T49 s n).f1.length := by
  unfold placeG at h
  cases v with
  | false => rw [if_neg (by decide)] at h; cases h
  | true =>
    rw [if_pos rfl] at h
    have h1 := findP_range nm s 0
    split at h
    · cases h
    · have h2 := colP_range cn (rd_T49 s (findP nm 0 s)).f1 0
      split at h
      · cases h
      · simp only [Prod.mk.injEq, and_true] at h
        obtain ⟨e1, e2⟩ := h
        subst e1 e2
        exact ⟨rfl, by omega, by omega, by omega, by omega⟩

set_option maxRecDepth 100000 in
theorem place_walk (k : Nat) (A0 : Option Addr) (c0 : Nat) (s : List S49) (nm cn : ByteArray) (v : Bool) (w : World) (hS : Kd.C k49 w A0 s.length s) (hc0 : s.length ≤ c0) (hv : scheme_Valid.f k s = some v) (hL : LaidL w) :
    Calls Tryz.prog 44 #[.slice A0 s.length c0, .string nm, .string cn] w fun e w' => e = .returned (.tuple #[.int .i64 (placeG v s nm cn).1, .int .i64 (placeG v s nm cn).2.1, .int .i64 (placeG v s nm cn).2.2]) ∧ Below w.heap.size w w' := by
  have HV := Aside0.mk (scheme_Valid.calls k A0 c0 s v w hS hc0 hv hL)
  have HF : Aside0 (∀ W, Below w.heap.size w W → Calls Tryz.prog 33 #[.slice A0 s.length c0, .string nm] W fun e w' => e = .returned (.int .i64 (findP nm 0 s)) ∧ Below W.heap.size W w') := ⟨fun W hW => scheme_find.calls A0 c0 s nm _ W (Kd.C_below hS hW) hc0 rfl⟩
  have HS := Aside0.mk hS
  have hrange := findP_range nm s 0
  clear hS hv hL
  unfold placeG
  generalize hn : findP nm 0 s = n at *
  cases v with
  | false =>
    rw [if_neg (by decide)]
    go_enter Tryz.func44, Tryz.ntmps44
    go_wp2_with (go_at_call 28; refine HV.out.mono ?_; rintro e w1 ⟨rfl, hb1⟩)
    go_ret3
    exact ⟨rfl, hb1⟩
  | true =>
    rw [if_pos rfl]
    by_cases q : n < 0
    · rw [if_pos q]
      have d1 : decide (n < 0) = true := decide_eq_true q
      clear hn hrange q
      go_enter Tryz.func44, Tryz.ntmps44
      go_wp2_with (first | (go_at_call 28; refine HV.out.mono ?_; rintro e w1 ⟨rfl, hb1⟩) | (go_at_call 33; refine (HF.out _ hb1).mono ?_; rintro e w2 ⟨rfl, hb2⟩))
      go_ret3
      exact ⟨rfl, below_step hb1 hb2⟩
    · rw [if_neg q]
      have d1 : decide (n < 0) = false := decide_eq_false q
      have hn0 : 0 ≤ n := by omega
      have hns : n < (s.length : Int) := by omega
      obtain ⟨aa, P1, p1, P2, p2, P3, p3, P4, p4, haa, z0, z1, z2, z3, z4, m1, C1, m2, C2, m3, C3, m4, C4⟩ := at_T49 HS.out n hn0 hns
      subst haa
      have HC : Aside0 (∀ W, Below w.heap.size w W → Calls Tryz.prog 91 #[.agg #[.string (rd_T49 s n).f0, .slice P1 (rd_T49 s n).f1.length p1, .slice P2 (rd_T49 s n).f2.length p2, .slice P3 (rd_T49 s n).f3.length p3, .slice P4 (rd_T49 s n).f4.length p4], .string cn] W fun e w' => e = .returned (.int .i64 (colP cn 0 (rd_T49 s n).f1)) ∧ Below W.heap.size W w') := ⟨fun W hW => column_walk _ P1 p1 _ P2 _ p2 P3 _ p3 P4 _ p4 cn W (Kd.C_below C1 hW) m1⟩
      generalize rd_T49 s n = t at *
      have HK : Aside0 (∀ W, Below w.heap.size w W → W.cell? (aa.add (n.toNat * 5)) = some (.string t.f0) ∧ W.cell? ⟨(aa.add (n.toNat * 5)).block, (aa.add (n.toNat * 5)).off + 1, none⟩ = some (.slice P1 t.f1.length p1) ∧ W.cell? ⟨(aa.add (n.toNat * 5)).block, (aa.add (n.toNat * 5)).off + 2, none⟩ = some (.slice P2 t.f2.length p2) ∧ W.cell? ⟨(aa.add (n.toNat * 5)).block, (aa.add (n.toNat * 5)).off + 3, none⟩ = some (.slice P3 t.f3.length p3) ∧ W.cell? ⟨(aa.add (n.toNat * 5)).block, (aa.add (n.toNat * 5)).off + 4, none⟩ = some (.slice P4 t.f4.length p4)) := ⟨fun W hW => ⟨(hW.cell (World.block_lt_of_cell? w _ z0)).trans z0, (hW.cell (World.block_lt_of_cell? w _ z1)).trans z1, (hW.cell (World.block_lt_of_cell? w _ z2)).trans z2, (hW.cell (World.block_lt_of_cell? w _ z3)).trans z3, (hW.cell (World.block_lt_of_cell? w _ z4)).trans z4⟩⟩
      clear z0 z1 z2 z3 z4 m1 C1 m2 C2 m3 C3 m4 C4 hn hrange q
      generalize colP cn 0 t.f1 = c at *
      by_cases q2 : c < 0
      · rw [if_pos q2]
        have d2 : decide (c < 0) = true := decide_eq_true q2
        clear q2
        go_enter Tryz.func44, Tryz.ntmps44
        go_wp2_with (first | (go_at_call 28; refine HV.out.mono ?_; rintro e w1 ⟨rfl, hb1⟩) | (go_at_call 33; refine (HF.out _ hb1).mono ?_; rintro e w2 ⟨rfl, hb2⟩; obtain ⟨y0, y1, y2, y3, y4⟩ := HK.out _ (below_step hb1 hb2)) | (go_at_call 91; refine (HC.out _ (below_step hb1 hb2)).mono ?_; rintro e w3 ⟨rfl, hb3⟩))
        go_ret3
        exact ⟨rfl, below_step (below_step hb1 hb2) hb3⟩
      · rw [if_neg q2]
        have d2 : decide (c < 0) = false := decide_eq_false q2
        clear q2
        go_enter Tryz.func44, Tryz.ntmps44
        go_wp2_with (first | (go_at_call 28; refine HV.out.mono ?_; rintro e w1 ⟨rfl, hb1⟩) | (go_at_call 33; refine (HF.out _ hb1).mono ?_; rintro e w2 ⟨rfl, hb2⟩; obtain ⟨y0, y1, y2, y3, y4⟩ := HK.out _ (below_step hb1 hb2)) | (go_at_call 91; refine (HC.out _ (below_step hb1 hb2)).mono ?_; rintro e w3 ⟨rfl, hb3⟩))
        go_ret3
        exact ⟨rfl, below_step (below_step hb1 hb2) hb3⟩

end Go.Proofs.YthgfdnffnbclpaaGreatDoor.PAll
namespace Go.Proofs.YthgfdnffnbclpaaGreatDoor.PAll
open Go.RowKit Go.Proofs.YthgfdnffnbclpaaGreatDoorW.PrintWords Go.Proofs.YthgfdnffnbclpaaGreatDoorW.PrintLast Go.Proofs.YthgfdnffnbclpaaGreatDoorW.PrintMore

/-- One number of an own row: where it lies, and the row with another in its place. -/
theorem R_num {W : World} {base : Nat} {ok : Nat → Prop} {g n cap : Nat} {xs : List Int} (h : Kd.R (Kd.int .i64) 3 W base ok (.slice (some ⟨g, 0, none⟩) n cap) xs) (i : Nat) (hi : i < xs.length) :
    W.cell? ⟨g, i, none⟩ = some (.int .i64 (xs.getD i 0)) ∧ W.frozen? ⟨g, i, none⟩ = false ∧ ∀ u : Int, Kd.R (Kd.int .i64) 3 (W.setCell ⟨g, i, none⟩ (.int .i64 u)) base ok (.slice (some ⟨g, 0, none⟩) n cap) (xs.set i u) := by
  have hn := (Kd.R_reads' h).1
  obtain ⟨c, hcl, hM, hcc⟩ := Kd.R_getA h (0 : Int) (i : Int) (by omega) (by omega)
  have hM2 : c = [.int .i64 (xs.getD i 0)] := by rw [Int.toNat_natCast] at hM; exact hM
  subst hM2
  have h1 := hcc 0 _ rfl
  rw [add_plain] at h1
  have h2 : W.cell? ⟨g, i, none⟩ = some (.int .i64 (xs.getD i 0)) := by
    have e : ((i : Int).toNat * (Kd.int .i64).sz + 0) = i := by rw [Int.toNat_natCast]; exact Nat.mul_one i
    rw [e] at h1; exact h1
  obtain ⟨g', cap', ev, _, _, cells, hgc⟩ := Kd.R_form h (by omega)
  simp only [Value.slice.injEq, Option.some.injEq, Addr.mk.injEq, and_true] at ev
  obtain ⟨⟨rfl, _⟩, _, _⟩ := ev
  refine ⟨h2, blk_frozen hgc _, fun u => ?_⟩
  obtain ⟨s1, s2⟩ := Kd.R_seg h (i : Int) (by omega) (by omega) (c := [.int .i64 (xs.getD i 0)]) (seg := [.int .i64 u]) (j := 0) rfl (fun j q hj => by have := hcc j q hj; rwa [add_plain] at this) (by show 0 + 1 ≤ 1; omega) (x' := u) (okp := fun _ => False) rfl (fun k hk => hk.elim)
  have e : ((i : Int).toNat * (Kd.int .i64).sz + 0) = i := by rw [Int.toNat_natCast]; exact Nat.mul_one i
  rw [e, Int.toNat_natCast] at s1
  exact s1

end Go.Proofs.YthgfdnffnbclpaaGreatDoor.PAll
namespace Go.Proofs.YthgfdnffnbclpaaGreatDoor.PAll
open Go.RowKit Go.Proofs.YthgfdnffnbclpaaGreatDoorW.PrintWords Go.Proofs.YthgfdnffnbclpaaGreatDoorW.PrintLast Go.Proofs.YthgfdnffnbclpaaGreatDoorW.PrintMore

def setIx (t : S49) (l : List Int) : S49 := ⟨t.f0, t.f1, t.f2, t.f3, l⟩
theorem S_ix {W : World} {base : Nat} {ok : Nat → Prop} {g n cap : Nat} {s : List S49} (h : Kd.S k49a 72 W base ok (.slice (some ⟨g, 0, none⟩) n cap) s) (m : Nat) (t : S49) (hm : s[m]? = some t) :
    ∃ (okx : Nat → Prop) (A4 : Option Addr) (c4 : Nat), W.cell? ⟨g, m * 5 + 4, none⟩ = some (.slice A4 t.f4.length c4) ∧ Kd.R (Kd.int .i64) 3 W base okx (.slice A4 t.f4.length c4) t.f4 ∧ (∀ k, okx k → ok k ∧ k ≠ g) ∧ g < W.heap.size ∧ base ≤ g ∧
      ∀ (W1 : World) (l : List Int) (v : Value), W.heap.size ≤ W1.heap.size → (∀ k, k < W.heap.size → ¬ okx k → W1.heap[k]? = W.heap[k]?) → Kd.R (Kd.int .i64) 3 W1 base (fun k => okx k ∨ ok k ∧ W.heap.size ≤ k) v l →
        W1.cell? ⟨g, m * 5 + 4, none⟩ = some (.slice A4 t.f4.length c4) ∧ W1.frozen? ⟨g, m * 5 + 4, none⟩ = false ∧ Kd.S k49a 72 (W1.setCell ⟨g, m * 5 + 4, none⟩ v) base ok (.slice (some ⟨g, 0, none⟩) n cap) (s.set m (setIx t l)) := by
  have hml := (List.getElem?_eq_some_iff.1 hm).1
  have hn := (Kd.S_reads' h).1
  obtain ⟨oki, c, hcl, hM, hcc, hoki, hH⟩ := Kd.S_lend h z49 (m : Int) (by omega) (by omega)
  rw [Int.toNat_natCast, List.getD_eq_getElem?_getD, hm] at hM
  obtain ⟨P, v1, v2, v3, v4, rfl, g1, g2, g3, g4⟩ := hM
  obtain ⟨A4, c4, rfl⟩ := Kd.R_slice g4
  have h0 := hcc 4 _ rfl
  rw [Int.toNat_natCast] at h0
  have hx : W.cell? ⟨g, m * 5 + 4, none⟩ = some (.slice A4 t.f4.length c4) := h0
  obtain ⟨cells, hgc⟩ := Kd.S_typed h g (by simp [Value.ownBlock])
  have hgs := blk_lt hgc
  refine ⟨fun k => oki k ∧ P k, A4, c4, hx, g4, fun k hk => hoki k hk.1, hgs, Kd.S_base h g (by simp [Value.ownBlock]), fun W1 l v hsz hfar hv => ?_⟩
  have hgc1 := (hfar g hgs (fun hk => (hoki g hk.1).2 rfl)).trans hgc
  refine ⟨(blk_cell hgc1 _).trans ((blk_cell hgc _).symm.trans hx), blk_frozen hgc1 _, ?_⟩
  have e1 := Kd.R_mono (Kd.R_step (Kd.R_bound g1) (fun k hk hlt => hfar k hlt (fun h2 => hk.1.2 h2.2))) (ok' := fun k => (oki k ∨ ok k ∧ W.heap.size ≤ k) ∧ ¬ (P k ∨ W.heap.size ≤ k)) (fun k hk => ⟨Or.inl hk.1.1, fun h2 => h2.elim hk.1.2 (fun h3 => by have := hk.2.2.1; omega)⟩)
  have e2 := Kd.R_mono (Kd.R_step (Kd.R_bound g2) (fun k hk hlt => hfar k hlt (fun h2 => hk.1.2 h2.2))) (ok' := fun k => (oki k ∨ ok k ∧ W.heap.size ≤ k) ∧ ¬ (P k ∨ W.heap.size ≤ k)) (fun k hk => ⟨Or.inl hk.1.1, fun h2 => h2.elim hk.1.2 (fun h3 => by have := hk.2.2.1; omega)⟩)
  have e3 := Kd.R_mono (Kd.R_step (Kd.R_bound g3) (fun k hk hlt => hfar k hlt (fun h2 => hk.1.2 h2.2))) (ok' := fun k => (oki k ∨ ok k ∧ W.heap.size ≤ k) ∧ ¬ (P k ∨ W.heap.size ≤ k)) (fun k hk => ⟨Or.inl hk.1.1, fun h2 => h2.elim hk.1.2 (fun h3 => by have := hk.2.2.1; omega)⟩)
  have e4 := Kd.R_mono hv (ok' := fun k => (oki k ∨ ok k ∧ W.heap.size ≤ k) ∧ (P k ∨ W.heap.size ≤ k)) (fun k hk => hk.elim (fun h2 => ⟨Or.inl h2.1, Or.inl h2.2⟩) (fun h2 => ⟨Or.inr h2, Or.inr h2.2⟩))
  have hM2 : MA W1 base (fun k => oki k ∨ ok k ∧ W.heap.size ≤ k) (setIx t l) ([Value.string t.f0, v1, v2, v3, Value.slice A4 t.f4.length c4].take 4 ++ [v] ++ [Value.string t.f0, v1, v2, v3, Value.slice A4 t.f4.length c4].drop (4 + [v].length)) := ⟨fun k => P k ∨ W.heap.size ≤ k, v1, v2, v3, v, rfl, e1, e2, e3, e4⟩
  have := (Kd.S_seg0 (Kd.H_step (Kd.H_widen hH) (fun k ho hn hlt => hfar k hlt (fun h2 => hn (Or.inl h2.1)))) (by omega) (by omega) (seg := [v]) (j := 4) (by show 4 + 1 ≤ 5; omega) (x' := setIx t l) hM2 (fun k hk => hk)).1
  rw [Int.toNat_natCast] at this
  exact this

set_option maxHeartbeats 4000000 in
set_option maxRecDepth 100000 in
theorem refCopy_walk (A0 : Option Addr) (c0 : Nat) (s : List S49) (w : World) (hS : Kd.C k49 w A0 s.length s) (hc0 : s.length ≤ c0) (hs : smallSch s) :
    Calls Tryz.prog 19 #[.slice A0 s.length c0] w fun e w' => ∃ v0_ : Value, e = .returned (v0_) ∧ Kd.S k49a 72 w' w.heap.size (fun _ => True) v0_ s ∧ Below w.heap.size w w' := by
  have HS := Aside0.mk hS
  have HSM := Aside0.mk hs
  have hs2 := hs.1
  have HB0 := Aside0.mk (Below.refl w.heap.size w)
  have HT0 : Aside0 (Kd.S k49a 72 w w.heap.size (fun _ => True) (.slice none 0 0) (s.take 0)) := ⟨by simpa using Kd.S_nil k49a _ _ _ _⟩
  clear hS hs
  go_enter Tryz.func19, Tryz.ntmps19
  go_wp2
  go_loopg [3, 4] s.length (fun gk v3 v4 wx => ∃ (m : Nat), m + gk = s.length ∧ v4 = .int .i64 m ∧ Aside0 (Kd.S k49a 72 wx w.heap.size (fun _ => True) v3 (s.take m)) ∧ Aside0 (Below w.heap.size w wx))
  case atStart => exact ⟨0, by omega, rfl, HT0, HB0⟩
  case round =>
    clear HT0 HB0
    obtain ⟨m, hm, rfl, HT, HB⟩ := hrel
    cases gk with
    | zero =>
      have hmi : ¬ (m : Int) < (s.length : Int) := by omega
      have e : s.take m = s := List.take_of_length_le (by omega)
      rw [e] at HT
      clear e
      go_wp2
      go_ret
      exact ⟨_, rfl, HT.out, HB.out⟩
    | succ gk =>
      have hlt : m < s.length := by omega
      have hmi : (m : Int) < (s.length : Int) := by omega
      have hm0 : (0 : Int) ≤ (m : Int) := by omega
      obtain ⟨aa, P1, p1, P2, p2, P3, p3, P4, p4, haa, z0, z1, z2, z3, z4, m1, C1, m2, C2, m3, C3, m4, C4⟩ := at_T49 HS.out (m : Int) hm0 hmi
      subst haa
      have hrd : rd_T49 s (m : Int) = s[m] := by unfold rd_T49; simp [List.getD, hlt]
      rw [hrd] at z0 z1 z2 z3 z4 m1 C1 m2 C2 m3 C3 m4 C4
      rw [Int.toNat_natCast] at z0 z1 z2 z3 z4
      replace z0 := (HB.out.cell (World.block_lt_of_cell? w _ z0)).trans z0
      replace z1 := (HB.out.cell (World.block_lt_of_cell? w _ z1)).trans z1
      replace z2 := (HB.out.cell (World.block_lt_of_cell? w _ z2)).trans z2
      replace z3 := (HB.out.cell (World.block_lt_of_cell? w _ z3)).trans z3
      replace z4 := (HB.out.cell (World.block_lt_of_cell? w _ z4)).trans z4
      have HN := Aside0.mk (copyTableA_walk s[m] P1 p1 P2 p2 P3 p3 P4 p4 wr (Kd.C_below C1 HB.out) m1 (Kd.C_below C2 HB.out) m2 (Kd.C_below C3 HB.out) m3 (Kd.C_below C4 HB.out) m4 (HSM.out.2 _ (List.getElem_mem hlt)))
      have HLT := Aside0.mk (take_snoc hlt)
      have hpl : (s.take m).length ≤ 2000000 := by rw [List.length_take]; omega
      clear C1 C2 C3 C4 hrd
      generalize s[m] = x at *
      generalize s.take m = pre at *
      go_wp2_with (first
        | (go_at_call 32; refine HN.out.mono ?_; rintro e w3 ⟨v1, v2, v3, v4, rfl, hM3, hb3⟩; obtain ⟨A5, c5, A6, c6, A7, c7, A8, c8, e5, e6, e7, e8⟩ := MA_slices hM3; subst e5 e6 e7 e8; have HM3 := Aside0.mk hM3; have HT3 := Aside0.mk (Kd.S_old HT.out hb3); have HB3 := Aside0.mk (below_step HB.out hb3); have HBW : Aside0 (w.heap.size ≤ wr.heap.size) := ⟨HB.out.size⟩; clear hM3 hb3)
        | ((with_reducible refine gate_builtin (b := .append) (xs := #[.tmp 11, .tmp 17]) rfl ?_); at_builtin; refine Kd.S_append k49a (w0 := w) w.heap.size rfl (.tmp 11) (.tmp 17) 23 72 (.agg #[(.string ⟨#[]⟩), (.slice none 0 0), (.slice none 0 0), (.slice none 0 0), (.slice none 0 0)]) 112 rfl Tryz.underlying23 info72 rfl (by decide) (by omega) u3 pre x [Value.string x.f0, Value.slice A5 x.f1.length c5, Value.slice A6 x.f2.length c6, Value.slice A7 x.f3.length c7, Value.slice A8 x.f4.length c8] (fun _ => True) (fun k_ => wr.heap.size ≤ k_) rfl rfl ?aP ?aQ (fun _ _ => trivial) ?aO HB3.out HB3.out.size (by omega) ?_; (case aP => exact k49a.M_lower HBW.out (k49a.M_mono (fun k hk => hk.2.1) (k49a.M_bound HM3.out))); (case aQ => exact fun k hk => ⟨trivial, fun he => by have := Kd.S_lt HT.out k he.symm; omega⟩); (case aO => exact Kd.S_mono HT3.out (fun k hk => ⟨trivial, fun h9 => by have := hk.2; omega⟩)); intro v16 w5 hv16 hb5 hg5 hat5; have HV16 := Aside0.mk hv16; have HB5 := Aside0.mk hb5; clear hv16 hb5 hg5 hat5))
      go_roundg gk
      case measure => omega
      case rel => exact ⟨m + 1, by omega, by first | rfl | (simp; done) | (simp; unfold wrap64; omega), ⟨by rw [HLT.out]; exact HV16.out⟩, HB5⟩
end Go.Proofs.YthgfdnffnbclpaaGreatDoor.PAll
namespace Go.Proofs.YthgfdnffnbclpaaGreatDoor.PAll
open Go.RowKit Go.Proofs.YthgfdnffnbclpaaGreatDoorW.PrintWords Go.Proofs.YthgfdnffnbclpaaGreatDoorW.PrintLast Go.Proofs.YthgfdnffnbclpaaGreatDoorW.PrintMore

def insI (c : Int) (l : List Int) : List Int := l.takeWhile (· < c) ++ c :: l.dropWhile (· < c)
def addG (v : Bool) (s : List S49) (nm cn : ByteArray) : List S49 × Int :=
  if (placeG v s nm cn).2.2 = 0 then
    if (rd_T49 s (placeG v s nm cn).1).f4.any (· == (placeG v s nm cn).2.1) = true then ([], 70)
    else (s.set (placeG v s nm cn).1.toNat (setIx (rd_T49 s (placeG v s nm cn).1) (insI (placeG v s nm cn).2.1 (rd_T49 s (placeG v s nm cn).1).f4)), 0)
  else ([], (placeG v s nm cn).2.2)
end Go.Proofs.YthgfdnffnbclpaaGreatDoor.PAll
namespace Go.Proofs.YthgfdnffnbclpaaGreatDoor.PAll
open Go.RowKit Go.Proofs.YthgfdnffnbclpaaGreatDoorW.PrintWords Go.Proofs.YthgfdnffnbclpaaGreatDoorW.PrintLast Go.Proofs.YthgfdnffnbclpaaGreatDoorW.PrintMore

theorem nan_walk (x : Int) (w : World) : Calls Tryz.prog 140 #[.int .i64 x] w fun e w' => e = .returned (.bool false) ∧ w = w' := by
  go_enter Tryz.func140, Tryz.ntmps140
  go_wp2
  go_ret
  exact ⟨by simp, rfl⟩
theorem nan2_walk (x : Int) (w : World) : Calls Tryz.prog 93 #[.int .i64 x] w fun e w' => e = .returned (.bool false) ∧ w = w' := by
  go_enter Tryz.func93, Tryz.ntmps93
  go_wp2
  go_ret
  exact ⟨by simp, rfl⟩
theorem less_walk (x y : Int) (w : World) : Calls Tryz.prog 92 #[.int .i64 x, .int .i64 y] w fun e w' => e = .returned (.bool (decide (x < y))) ∧ w = w' := by
  go_enter Tryz.func92, Tryz.ntmps92
  go_wp2_with (go_at_call 140; refine (nan_walk _ _).mono ?_; rintro e w' ⟨rfl, rfl⟩)
  go_ret
  exact ⟨rfl, rfl⟩
def atI (c : Int) (l : List Int) : Nat := l.countP (· < c)
set_option maxHeartbeats 4000000 in
set_option maxRecDepth 100000 in
theorem search_walk (A : Option Addr) (cap : Nat) (l : List Int) (x : Int) (w : World) (hC : Kd.C (Kd.int .i64) w A l.length l) (hcap : l.length ≤ cap) (hl : l.length ≤ 3000000) (hs : l.Pairwise (· ≤ ·)) :
    Calls Tryz.prog 45 #[.slice A l.length cap, .int .i64 x] w fun e w' => e = .returned (.tuple #[.int .i64 (atI x l : Nat), .bool (l.any (· == x))]) ∧ Below w.heap.size w w' := by
  have S : Aside0 (∀ a b, a ≤ b → b < l.length → l.getD a 0 ≤ l.getD b 0) := ⟨Go.Lib.sorted_at l l.length (Nat.le_refl _) (by rw [List.take_length]; exact hs)⟩
  have HC := Aside0.mk hC
  have HANY : Aside0 (l.any (· == x) = l.contains x) := ⟨by
    rw [Bool.eq_iff_iff, List.contains_iff_mem, List.any_eq_true]
    exact ⟨fun ⟨y, h1, h2⟩ => by rw [beq_iff_eq] at h2; rw [← h2]; exact h1, fun h => ⟨x, h, by simp⟩⟩⟩
  clear hs hC
  go_enter Tryz.func45, Tryz.ntmps45
  go_wp2
  go_loopg [7, 8] l.length (fun g s7 s8 wr => ∃ lo hi q : Nat, s7 = .int .i64 lo ∧ s8 = .int .i64 hi ∧ lo ≤ hi ∧ hi ≤ l.length ∧ hi - lo ≤ g ∧ wr = w.drewN q ∧ Aside0 ((∀ t, t < lo → l.getD t 0 < x) ∧ (∀ t, hi ≤ t → t < l.length → x ≤ l.getD t 0)))
  case atStart => exact ⟨0, l.length, 0, rfl, rfl, Nat.zero_le _, Nat.le_refl _, by omega, rfl, ⟨fun t ht => absurd ht (Nat.not_lt_zero _), fun t h1 h2 => by omega⟩⟩
  case round =>
    obtain ⟨lo, hi, q, rfl, rfl, hlh, hin, hg, rfl, I⟩ := hrel
    by_cases hlt : lo < hi
    · obtain ⟨ad, hA, cm⟩ := Kd.at_int HC.out (((lo + hi) / 2 : Nat) : Int) (by omega) (by omega)
      subst hA
      rw [show rd l (((lo + hi) / 2 : Nat) : Int) = l.getD ((lo + hi) / 2) 0 by unfold rd; rw [Int.toNat_natCast], Int.toNat_natCast] at cm
      generalize hy : l.getD ((lo + hi) / 2) 0 = y at cm
      have Y := Aside0.mk hy
      clear hy
      by_cases hyx : y < x
      · go_wp2_with (first | (go_at_call 92; refine (less_walk _ _ _).mono ?_; rintro e w' ⟨rfl, rfl⟩) | (go_at_call 93; refine (nan2_walk _ _).mono ?_; rintro e w' ⟨rfl, rfl⟩))
        go_roundg (hi - ((lo + hi) / 2 + 1))
        case measure => omega
        case rel =>
          refine ⟨(lo + hi) / 2 + 1, hi, _, by rw [show ((lo : Int) + (hi : Int)) / 2 + 1 = (((lo + hi) / 2 + 1 : Nat) : Int) by omega], rfl, by omega, hin, Nat.le_refl _, rfl, ⟨fun t ht => ?_, I.out.2⟩⟩
          have := S.out t ((lo + hi) / 2) (by omega) (by omega)
          rw [Y.out] at this
          omega
      · go_wp2_with (first | (go_at_call 92; refine (less_walk _ _ _).mono ?_; rintro e w' ⟨rfl, rfl⟩) | (go_at_call 93; refine (nan2_walk _ _).mono ?_; rintro e w' ⟨rfl, rfl⟩))
        go_roundg ((lo + hi) / 2 - lo)
        case measure => omega
        case rel =>
          refine ⟨lo, (lo + hi) / 2, _, rfl, by rw [show ((lo : Int) + (hi : Int)) / 2 = (((lo + hi) / 2 : Nat) : Int) by omega], by omega, by omega, Nat.le_refl _, rfl, ⟨I.out.1, fun t ht htn => ?_⟩⟩
          have := S.out ((lo + hi) / 2) t ht htn
          rw [Y.out] at this
          omega
    · have : hi = lo := by omega
      subst this
      obtain ⟨e1, e2⟩ := Go.Lib.search_end l l.length hi x (Nat.le_refl _) hin I.out.1 I.out.2 S.out
      rw [List.take_length] at e1 e2
      have E : Aside0 (atI x l = hi ∧ l.any (· == x) = decide (hi < l.length ∧ l.getD hi 0 = x)) := ⟨e1, HANY.out.trans e2⟩
      have HBQ : Aside0 (∀ q, Below w.heap.size w (w.drewN q)) := ⟨fun q => pw_below_drewN (Below.refl _ _) q⟩
      clear e1 e2 HANY
      by_cases hn : hi < l.length
      · obtain ⟨ad, hA, cl⟩ := Kd.at_int HC.out (hi : Int) (by omega) (by omega)
        subst hA
        rw [show rd l (hi : Int) = l.getD hi 0 by unfold rd; rw [Int.toNat_natCast], Int.toNat_natCast] at cl
        generalize hy : l.getD hi 0 = y at cl
        have Y := Aside0.mk hy
        clear hy
        by_cases hyx : y = x
        · go_wp2_with (first | (go_at_call 92; refine (less_walk _ _ _).mono ?_; rintro e w' ⟨rfl, rfl⟩) | (go_at_call 93; refine (nan2_walk _ _).mono ?_; rintro e w' ⟨rfl, rfl⟩))
          go_ret2
          refine ⟨?_, HBQ.out _⟩
          rw [E.out.1, E.out.2, Y.out, decide_eq_true (show hi < l.length ∧ y = x from ⟨hn, hyx⟩)]
          first | rfl | simp [*]
        · go_wp2_with (first | (go_at_call 92; refine (less_walk _ _ _).mono ?_; rintro e w' ⟨rfl, rfl⟩) | (go_at_call 93; refine (nan2_walk _ _).mono ?_; rintro e w' ⟨rfl, rfl⟩))
          go_ret2
          refine ⟨?_, HBQ.out _⟩
          rw [E.out.1, E.out.2, Y.out, decide_eq_false (show ¬ (hi < l.length ∧ y = x) from fun h => hyx h.2)]
          first | rfl | simp [*]
      · go_wp2_with (first | (go_at_call 92; refine (less_walk _ _ _).mono ?_; rintro e w' ⟨rfl, rfl⟩) | (go_at_call 93; refine (nan2_walk _ _).mono ?_; rintro e w' ⟨rfl, rfl⟩))
        go_ret2
        refine ⟨?_, HBQ.out _⟩
        rw [E.out.1, E.out.2, decide_eq_false (show ¬ (hi < l.length ∧ l.getD hi 0 = x) from fun h => hn h.1)]
        first | rfl | simp [*]
end Go.Proofs.YthgfdnffnbclpaaGreatDoor.PAll
namespace Go.Proofs.YthgfdnffnbclpaaGreatDoor.PAll
open Go.RowKit Go.Proofs.YthgfdnffnbclpaaGreatDoorW.PrintWords Go.Proofs.YthgfdnffnbclpaaGreatDoorW.PrintLast Go.Proofs.YthgfdnffnbclpaaGreatDoorW.PrintMore

theorem R_cur {W : World} {base : Nat} {ok : Nat → Prop} {g n cap : Nat} {l : List Int} (h : Kd.R (Kd.int .i64) 3 W base ok (.slice (some ⟨g, 0, none⟩) n cap) l) :
    ∃ cur : Array Value, W.heap[g]? = some (.cells cur 3 (0, 0)) ∧ cur.size = cap ∧ cur.toList.take n = l.map (Value.int .i64) ∧ n = l.length ∧ n ≤ cap ∧ cap ≤ maxLen ∧ base ≤ g ∧ ok g := by
  have hn := (Kd.R_reads' h).1
  obtain ⟨_, ho⟩ := Kd.own_of_R h
  rcases ho with ⟨hv, _⟩ | ⟨g', cap', cur, hv, hb, hh, hnc, hcm, hcs, ht⟩
  · cases hv
  injection hv with ha _ hc
  injection ha with ha
  injection ha with hg
  subst hg; subst hc
  exact ⟨cur, hh, by rw [hcs, Nat.mul_one], by rw [hn, ← Nat.mul_one l.length]; exact ht, hn, by rw [hn]; exact hnc, hcm, hb, h.1 _ (by simp [Value.ownBlock])⟩
theorem R_ofcur {W : World} {base : Nat} {ok : Nat → Prop} {g cap : Nat} {l : List Int} {cur : Array Value} (h1 : W.heap[g]? = some (.cells cur 3 (0, 0))) (h2 : cur.size = cap) (h3 : cur.toList.take l.length = l.map (Value.int .i64)) (h4 : l.length ≤ cap) (h5 : cap ≤ maxLen) (h6 : base ≤ g) (h7 : ok g) :
    Kd.R (Kd.int .i64) 3 W base ok (.slice (some ⟨g, 0, none⟩) l.length cap) l :=
  Kd.R_of_own ⟨by rw [encs_length, Nat.mul_one], Or.inr ⟨g, cap, cur, rfl, h6, h1, h4, h5, by rw [h2, Nat.mul_one], by rw [Nat.mul_one]; exact h3⟩⟩ (fun k hk => by
    have : g = k := by simpa [Value.ownBlock] using hk
    subst this; exact h7)
section
variable {P : Program} {ops : Array Oper} {Q : Exit → Act → World → Prop} {rest : List Oper} {o : Oper} {a : Act} {w : World}
theorem wpList_append_run (hg : o.guard = none) (s x : Operand) (t t' ty : TypeId) (hop : o.op = .call { callee := .builtin .append, args := #[s, x], argTypes := #[t, t'] }) (hty : o.type = ty) {u : Value} {w' : World} (sv xv : Value) (hs : a.eval s = sv) (hx : a.eval x = xv)
    (hrun : (Builtin.append_ #[t, t'] ty #[sv, xv]).run P w = .ok u w') (hK : wpList P ops Q rest (a.put o.dst u) w') : wpList P ops Q (o :: rest) a w := by
  subst hty
  refine wpList_plain hg fun K' hK' => ?_
  unfold Oper.wp execOp
  simp only [hop, resolve, invoke, builtin, Sem.run_bind, Sem.run_pure, Result.andThen_ok, List.map_toArray, List.map_cons, List.map_nil, hs, hx, hrun]
  exact hK' _ _ hK
theorem wpList_copy_run (hg : o.guard = none) (s x : Operand) (t t' ty : TypeId) (hop : o.op = .call { callee := .builtin .copy, args := #[s, x], argTypes := #[t, t'] }) (hty : o.type = ty) {u : Value} {w' : World} (sv xv : Value) (hs : a.eval s = sv) (hx : a.eval x = xv)
    (hrun : (Builtin.copy_ #[t, t'] ty #[sv, xv]).run P w = .ok u w') (hK : wpList P ops Q rest (a.put o.dst u) w') : wpList P ops Q (o :: rest) a w := by
  subst hty
  refine wpList_plain hg fun K' hK' => ?_
  unfold Oper.wp execOp
  simp only [hop, resolve, invoke, builtin, Sem.run_bind, Sem.run_pure, Result.andThen_ok, List.map_toArray, List.map_cons, List.map_nil, hs, hx, hrun]
  exact hK' _ _ hK
theorem step_copy_run {Kc : Act → World → Prop} (hw : Region.wanted o (yielded ops a.tmps) = true) (s x : Operand) (t t' ty : TypeId) (hop : o.op = .call { callee := .builtin .copy, args := #[s, x], argTypes := #[t, t'] }) (hty : o.type = ty) {u : Value} {w' : World} (sv xv : Value) (hs : a.eval s = sv) (hx : a.eval x = xv)
    (hrun : (Builtin.copy_ #[t, t'] ty #[sv, xv]).run P w = .ok u w') (hK : Kc (a.put o.dst u) w') : if Region.wanted o (yielded ops a.tmps) = true then Oper.wp P o a w Kc Q else Kc (a.put o.dst undef) w := by
  subst hty
  rw [if_pos hw]
  unfold Oper.wp execOp
  simp only [hop, resolve, invoke, builtin, Sem.run_bind, Sem.run_pure, Result.andThen_ok, List.map_toArray, List.map_cons, List.map_nil, hs, hx, hrun]
  exact hK
/-- append(v, make([]int, m)...) where there is no room: a new row. -/
theorem run_zeros_grow (ty : TypeId) (base : Nat) (g cap n m : Nat) (xs : List Value) (hown : w.ownsRow base 3 1 (.slice (some ⟨g, 0, none⟩) n cap) n xs) (hm : 0 < m) (hroom : cap < n + m) (hbytes : (n + m) * 8 ≤ 140737488355328) :
    ∃ C w', (Builtin.append_ #[70, 3] ty #[.slice (some ⟨g, 0, none⟩) n cap, .int .i64 m]).run Tryz.prog w = .ok (.slice (some ⟨w.heap.size, 0, none⟩) (n + m) C) w' ∧
      w'.ownsRow w.heap.size 3 1 (.slice (some ⟨w.heap.size, 0, none⟩) (n + m) C) (n + m) (xs ++ List.replicate m (.int .i64 0)) ∧ w.grownBy w' none := by
  obtain ⟨i, hi, hz, hsize, hby⟩ := info_parts (P := Tryz.prog) info3
  have ht := Tryz.underlying70
  have hti := Tryz.underlying3
  have hw : IntKind.i64.wrap (m : Int) = m := by rw [IntKind.wrap_i64]; omega
  have hneg : ¬ ((m : Int) < 0) := by omega
  have hbig : ¬ (281474976710656 < (m : Int) * (8 : Int)) := by omega
  have h63 : n + m ≤ maxLen := by simp only [maxLen]; omega
  have h63' : ¬ (9223372036854775807 < ((n : Int) + (m : Int))) := by omega
  have hzc : Builtin.zeroCells (Value.cells (.int .i64 0)) m = (List.replicate m (Value.int .i64 0)).toArray := by
    apply Array.ext'
    apply List.ext_getElem
    · simp [Builtin.zeroCells, Value.cells]
    · intro j h1 h2
      simp [Builtin.zeroCells, Value.cells, Nat.mod_one]
  rcases hown.2 with ⟨hv, _⟩ | ⟨g', cap', cur, hv, hbg, hg, hnc, hcm, hcs, htake⟩
  · cases hv
  have holds : ∀ j u, xs[j]? = some u → w.cell? ((⟨g, 0, none⟩ : Addr).add j) = some u := hown.cells (g := g) rfl
  have hfo : (Builtin.firstCells 1 n (.slice (some ⟨g, 0, none⟩) n cap)).run Tryz.prog w.drew = .ok xs.toArray w.drew := run_firstCells_some (P := Tryz.prog) w.drew 1 n _ n cap xs hown.1 (by simpa using holds)
  have hn : ¬ (n + m ≤ cap) := by omega
  have hfit := growslice_fits hroom hbytes
  have h48' : ¬ (281474976710656 < Builtin.nextslicecap (n + m) cap * 8) := by omega
  have hmz : ¬ (m = 0) := by omega
  have hge := grownCap_ge w (n + m) cap 3
  have hcm2 : grownCap w (n + m) cap 3 ≤ maxLen := grownCap_le_maxLen w (n + m) cap 3 h63
  have hxl : xs.length = n := by have := hown.1; omega
  refine ⟨grownCap w (n + m) cap 3, w.drew.alloc (.cells (xs.toArray ++ (List.replicate m (Value.int .i64 0)).toArray ++ Builtin.zeroCells (Value.cells (.int .i64 0)) (grownCap w (n + m) cap 3 - (n + m))) 3), ?_, ⟨by simp [hxl], .inr ⟨w.heap.size, _, _, rfl, Nat.le_refl _, heap_alloc_new w.drew _, hge, hcm2, ?_, ?_⟩⟩, ⟨rfl, rfl, rfl, by simp, fun k hk _ => heap_alloc_old w.drew _ hk⟩⟩
  · simp [Builtin.append_, run_underlying ht, run_underlying hti, sizeOf, typeInfo, zeroValue, hi, hz, hsize, hby, asInt, asIntOf, hw, hneg, hbig, hn, h63', h48', Question.forced, hfo, newRow, grownCap, hmz, hzc]
  · simp [size_zeroCells, Value.cells, hxl]; omega
  · simp only [Array.toList_append, List.append_assoc, Nat.mul_one]
    rw [← List.append_assoc, show n + m = (xs ++ List.replicate m (Value.int .i64 0)).length by simp [hxl]]
    exact List.take_left
end
theorem overlaps_is : Extern.find Tryz.f94 = some (Extern.SlicesOverlaps.overlaps #[70, 70] #[4]) := by kernel_rfl
theorem overlaps_run (w : World) (g gs o la ca lb cb : Nat) (t t' : TypeId) (ca' cb' : Array Value) (h1 : w.heap[gs]? = some (.cells ca' t (0, 0))) (h2 : w.heap[g]? = some (.cells cb' t' (0, 0))) (hne : gs ≠ g) :
    (callFunc 94 #[.slice (some ⟨gs, 0, none⟩) la ca, .slice (some ⟨g, o, none⟩) lb cb]).run Tryz.prog w = .ok (.value (.bool false)) w := by
  rw [run_callFunc_extern Tryz.func94 (by kernel_rfl) (by kernel_rfl) (by kernel_rfl) overlaps_is]
  have e1 : w.shape? gs = some (t, ca'.size) := by simp [World.shape?, h1]
  have e2 : w.shape? g = some (t', cb'.size) := by simp [World.shape?, h2]
  have f1 : ∀ j, w.frozen? ⟨gs, j, none⟩ = false := fun j => blk_frozen h1 j
  have f2 : ∀ j, w.frozen? ⟨g, j, none⟩ = false := fun j => blk_frozen h2 j
  have hu := Tryz.underlying70
  have hz := Tryz.sizeOf3
  have hne2 : (gs == g) = false := beq_eq_false_iff_ne.mpr hne
  have hne3 : (gs != g) = true := by rw [bne, hne2]; rfl
  have hrun : (Extern.SlicesOverlaps.overlaps #[70, 70] #[4] #[.slice (some ⟨gs, 0, none⟩) la ca, .slice (some ⟨g, o, none⟩) lb cb]).run Tryz.prog w = .ok (.bool false) w := by
    refine (show Sem.run Tryz.prog (underlying 70 >>= _) w = _ from ?_)
    rw [Sem.run_bind, run_underlying hu]
    by_cases q : la = 0 ∨ lb = 0
    · rcases q with q | q <;> simp [run_underlying hu, hz, q]
    · have q1 : ¬ la = 0 := fun h => q (Or.inl h)
      have q2 : ¬ lb = 0 := fun h => q (Or.inr h)
      simp [run_underlying hu, hz, q1, q2, hne, hne2, hne3, f1, f2, e1, e2, noView, viewAt, mayBeOne, stringish]
  rw [hrun]
  rfl
theorem below_step0 {base : Nat} {w W : World} (h : Below base w W) : Below base w W.drew := below_drew h
theorem wrap_succ {k n : Nat} (h : k ≤ n) (hn : n ≤ 2000000) : wrap64 ((k : Int) + 1) = (k : Int) + 1 := by unfold wrap64; omega
theorem ins_cells (L D T : List Value) (k : Nat) (x : Value) (h : k + 1 ≤ L.length) : (L.take (k + 1) ++ D ++ T).take k ++ [x] ++ (L.take (k + 1) ++ D ++ T).drop (k + 1) = L.take k ++ [x] ++ (D ++ T) := by
  have hL : (L.take (k + 1)).length = k + 1 := by rw [List.length_take]; omega
  have e1 : (L.take (k + 1) ++ (D ++ T)).take k = L.take k := by rw [List.take_append_of_le_length (by rw [hL]; omega), List.take_take, Nat.min_eq_left (by omega)]
  have e2 : (L.take (k + 1) ++ (D ++ T)).drop (k + 1) = D ++ T := List.drop_left' hL
  rw [List.append_assoc (L.take (k + 1)) D T, e1, e2]
theorem cells_of {w : World} {g cap : Nat} {l : List Int} {cur : Array Value} (hcs : cur.size = cap) (hct : cur.toList.take l.length = l.map (Value.int .i64)) (hcur : w.heap[g]? = some (.cells cur 3 (0, 0))) :
    (∀ j (h : j < l.length), w.cell? ⟨g, j, none⟩ = some (.int .i64 l[j])) ∧ ∀ j, j < cap → (w.cell? ⟨g, j, none⟩).isSome = true := by
  refine ⟨fun j h => ?_, fun j h => ?_⟩
  · rw [cell_of_row w g _ cur 3 (0, 0) hcur, ← Array.getElem?_toList]
    have h1 : (cur.toList.take l.length)[j]? = (l.map (Value.int .i64))[j]? := by rw [hct]
    rw [List.getElem?_take, if_pos h, List.getElem?_map, List.getElem?_eq_getElem h] at h1
    exact h1
  · rw [cell_of_row w g _ cur 3 (0, 0) hcur, Array.getElem?_eq_getElem (by omega)]
    rfl
set_option maxHeartbeats 4000000 in
set_option maxRecDepth 100000 in
theorem insOne_walk (A : Option Addr) (cap : Nat) (l : List Int) (k : Nat) (x : Int) (gs base : Nat) (ok : Nat → Prop) (w : World) (hR : Kd.R (Kd.int .i64) 3 w base ok (.slice A l.length cap) l) (hk : k ≤ l.length) (hsb : w.heap[gs]? = some (.cells #[.int .i64 x] 3 (0, 0))) (hgs : ¬ ok gs) (hl : l.length ≤ 2000000) (hbw : base ≤ w.heap.size) :
    Calls Tryz.prog 46 #[.slice A l.length cap, .int .i64 k, .slice (some ⟨gs, 0, none⟩) 1 1] w fun e w' => ∃ v', e = .returned v' ∧ Kd.R (Kd.int .i64) 3 w' base (fun q => ok q ∨ w.heap.size ≤ q) v' (l.take k ++ x :: l.drop k) ∧ w.heap.size ≤ w'.heap.size ∧ (∀ q, q < w.heap.size → ¬ ok q → w'.heap[q]? = w.heap[q]?) ∧ Below base w w' := by
  have hcap := (Kd.R_reads' hR).2.1
  have hgc : w.cell? ⟨gs, 0, none⟩ = some (.int .i64 x) := (blk_cell hsb 0).trans rfl
  have HC1 : Aside0 (Kd.C (Kd.int .i64) w (some ⟨gs, 0, none⟩) 1 [x]) := ⟨⟨rfl, by omega, fun _ => ⟨⟨gs, 0, none⟩, rfl, fun j p hj => by
    have hj0 : j = 0 := by have := (List.getElem?_eq_some_iff.1 hj).1; simp at this; omega
    subst hj0
    have hp : p = x := by simpa using hj.symm
    subst hp
    refine ⟨[.int .i64 p], rfl, rfl, fun i u hu => ?_⟩
    have hi0 : i = 0 := by have := (List.getElem?_eq_some_iff.1 hu).1; simp at this; omega
    subst hi0
    have hu2 : u = .int .i64 p := by simpa using hu.symm
    subst hu2
    exact hgc⟩⟩⟩
  have HR := Aside0.mk hR
  have HSB := Aside0.mk hsb
  by_cases q : k = l.length
  · subst q
    have d1 : ((l.length : Int) == (l.length : Int)) = true := beq_iff_eq.mpr rfl
    rw [List.take_length, List.drop_length]
    clear hsb hgc hk
    cases A with
    | none =>
      have hl0 : l = [] := by
        cases l with
        | nil => rfl
        | cons y l => obtain ⟨g, cap', ev, _⟩ := Kd.R_form hR (by simp); cases ev
      subst hl0
      have hcap0 : cap = 0 := by
        obtain ⟨_, ho⟩ := Kd.own_of_R hR
        rcases ho with ⟨hv, _⟩ | ⟨g', cap', cur, hv, _⟩
        · injection hv
        · cases hv
      subst hcap0
      clear hR
      go_enter Tryz.func46, Tryz.ntmps46
      go_wp2_with ((with_reducible refine gate_builtin (b := .append) (xs := #[.tmp 23, .tmp 24]) rfl ?_); at_builtin; refine Kd.R_append_rows (Kd.int .i64) (w0 := w) base rfl (.tmp 23) (.tmp 24) 70 3 (.int .i64 0) 8 rfl Tryz.underlying70 info3 rfl (by decide) (by omega) (.slice none 0 0) [] [x] _ _ _ (fun q_ => ok q_ ∨ w.heap.size ≤ q_) (fun _ => False) rfl rfl ?aO ?aR (fun _ _ h => h) (fun _ h => h.elim) ?aF ?aB ?aS ?aL ?_; (case aR => exact HC1.out); (case aB => exact Below.refl _ _); (case aF => exact (fun _ hq => Or.inr hq)); (case aO => exact Kd.R_mono HR.out (fun _ h => Or.inl h)); (case aS => exact hbw); (case aL => first | omega | (simp; omega) | (simp; done)); intro v7 w8 ho hb hg hat; have HO7 := Aside0.mk ho; have HB8 := Aside0.mk hb; have HG8 := Aside0.mk hg; clear ho hb hg hat)
      go_ret
      exact ⟨_, rfl, HO7.out, HG8.out.size, fun q hq hn => HG8.out.block q hq (fun he => hn (HR.out.1 q he.symm)), HB8.out⟩
    | some a =>
      by_cases e : cap = l.length
      · subst e
        clear hR
        go_enter Tryz.func46, Tryz.ntmps46
        go_wp2_with ((with_reducible refine gate_builtin (b := .append) (xs := #[.tmp 23, .tmp 24]) rfl ?_); at_builtin; refine Kd.R_append_rows (Kd.int .i64) (w0 := w) base rfl (.tmp 23) (.tmp 24) 70 3 (.int .i64 0) 8 rfl Tryz.underlying70 info3 rfl (by decide) (by omega) (.slice (some a) l.length l.length) l [x] _ _ _ (fun q_ => ok q_ ∨ w.heap.size ≤ q_) (fun _ => False) rfl rfl ?aO ?aR (fun _ _ h => h) (fun _ h => h.elim) ?aF ?aB ?aS ?aL ?_; (case aR => exact HC1.out); (case aB => exact Below.refl _ _); (case aF => exact (fun _ hq => Or.inr hq)); (case aO => exact Kd.R_mono HR.out (fun _ h => Or.inl h)); (case aS => exact hbw); (case aL => first | omega | (simp; omega) | (simp; done)); intro v7 w8 ho hb hg hat; have HO7 := Aside0.mk ho; have HB8 := Aside0.mk hb; have HG8 := Aside0.mk hg; clear ho hb hg hat)
        go_ret
        exact ⟨_, rfl, HO7.out, HG8.out.size, fun q hq hn => HG8.out.block q hq (fun he => hn (HR.out.1 q he.symm)), HB8.out⟩
      · have hce : ¬ l.length = cap := fun h => e h.symm
        clear hR
        go_enter Tryz.func46, Tryz.ntmps46
        go_wp2_with ((with_reducible refine gate_builtin (b := .append) (xs := #[.tmp 23, .tmp 24]) rfl ?_); at_builtin; refine Kd.R_append_rows (Kd.int .i64) (w0 := w) base rfl (.tmp 23) (.tmp 24) 70 3 (.int .i64 0) 8 rfl Tryz.underlying70 info3 rfl (by decide) (by omega) (.slice (some a) l.length cap) l [x] _ _ _ (fun q_ => ok q_ ∨ w.heap.size ≤ q_) (fun _ => False) rfl rfl ?aO ?aR (fun _ _ h => h) (fun _ h => h.elim) ?aF ?aB ?aS ?aL ?_; (case aR => exact HC1.out); (case aB => exact Below.refl _ _); (case aF => exact (fun _ hq => Or.inr hq)); (case aO => exact Kd.R_mono HR.out (fun _ h => Or.inl h)); (case aS => exact hbw); (case aL => first | omega | (simp; omega) | (simp; done)); intro v7 w8 ho hb hg hat; have HO7 := Aside0.mk ho; have HB8 := Aside0.mk hb; have HG8 := Aside0.mk hg; clear ho hb hg hat)
        go_ret
        exact ⟨_, rfl, HO7.out, HG8.out.size, fun q hq hn => HG8.out.block q hq (fun he => hn (HR.out.1 q he.symm)), HB8.out⟩
  · have hkl : k < l.length := by omega
    obtain ⟨g, cap', ev, _⟩ := Kd.R_form hR (by omega)
    simp only [Value.slice.injEq, true_and] at ev
    obtain ⟨eA, eC⟩ := ev
    subst eA
    subst eC
    obtain ⟨cur, hcur, hcs, hct, _, _, hcm, hbg, hog⟩ := R_cur hR
    have hgg : gs ≠ g := fun e => hgs (e ▸ hog)
    have d1 : ((k : Int) == (l.length : Int)) = false := beq_eq_false_iff_ne.mpr (by omega)
    have hki : (k : Int) < (l.length : Int) := by omega
    by_cases qc : l.length + 1 ≤ cap
    · have d2 : decide ((cap : Int) < (l.length : Int) + 1) = false := decide_eq_false (by omega)
      clear hR hsb hgc
      go_enter Tryz.func46, Tryz.ntmps46
      have hck : ¬ cap = k + 1 := by omega
      have hck0 : ¬ cap = k := by omega
      have hov : ∀ o la ca lb cb, (callFunc 94 #[.slice (some ⟨gs, 0, none⟩) la ca, .slice (some ⟨g, o, none⟩) lb cb]).run Tryz.prog w = .ok (.value (.bool false)) w := fun o la ca lb cb => overlaps_run w g gs o la ca lb cb 3 3 _ _ HSB.out hcur hgg
      have hcl := cells_of hcs hct hcur
      have hlen1 : (l.drop k).length = l.length - k := List.length_drop
      have hr1 := run_copy_cells (P := Tryz.prog) w.drew 70 70 3 3 g (k + 1) (l.length - k) (cap - (k + 1)) ⟨g, k, none⟩ (l.length + 1 - k) (cap - k) ((l.drop k).map (Value.int .i64)) Tryz.underlying70 (by kernel_rfl) (by rw [List.length_map, hlen1]; show _ = min _ _; omega)
        (fun j u hj => by
          have hjl : j < (l.drop k).length := by have := (List.getElem?_eq_some_iff.1 hj).1; rwa [List.length_map] at this
          rw [List.getElem?_map, List.getElem?_eq_getElem hjl] at hj
          have hu : u = .int .i64 (l.drop k)[j] := by simpa using hj.symm
          rw [hu, List.getElem_drop, add_at]
          exact hcl.1 (k + j) (by omega))
        (fun j hj => by rw [List.length_map, hlen1] at hj; exact hcl.2 (k + 1 + j) (by omega)) (fun j _ => blk_frozen (w := w.drew) hcur _) (fun u hu => by obtain ⟨y, _, rfl⟩ := List.mem_map.1 hu; rfl)
      obtain ⟨D, hD⟩ : ∃ D, D = (l.drop k).map (Value.int .i64) := ⟨_, rfl⟩
      have hDl : D.length = l.length - k := by rw [hD, List.length_map, hlen1]
      rw [← hD] at hr1
      rw [hDl] at hr1
      obtain ⟨W2, hW2⟩ : ∃ W, W = w.drew.setCells g (k + 1) D := ⟨_, rfl⟩
      rw [← hW2] at hr1
      obtain ⟨cur2, c2a, c2b, c2c⟩ := setCells_row D (k + 1) w.drew cur hcur (by rw [hDl, hcs]; omega)
      have hgs2 : W2.heap[gs]? = some (.cells #[.int .i64 x] 3 (0, 0)) := by rw [hW2]; exact (setCells_far D (k + 1) gs hgg).trans HSB.out
      have hb2 : ∀ q, q ≠ g → W2.heap[q]? = w.heap[q]? := fun q hq => by rw [hW2]; exact setCells_far D (k + 1) q hq
      have hs2 : W2.heap.size = w.heap.size := by rw [hW2, (setCells_same _ _ _ _).2.2.2]; rfl
      have hB2 : Below base w W2 := by rw [hW2]; exact Go.below_setCells hbg _ _ _ (below_drew (Below.refl _ _))
      rw [← hW2] at c2a
      have hr2 := run_copy_cells (P := Tryz.prog) W2 70 70 3 3 g k (l.length + 1 - k) (cap - k) ⟨gs, 0, none⟩ 1 1 [.int .i64 x] Tryz.underlying70 (by kernel_rfl) (by show 1 = min _ _; omega)
        (fun j u hj => by
          have hj0 : j = 0 := by have := (List.getElem?_eq_some_iff.1 hj).1; simp at this; omega
          subst hj0
          have hu : u = .int .i64 x := by simpa using hj.symm
          subst hu
          exact (blk_cell hgs2 0).trans rfl)
        (fun j hj => by rw [cell_of_row W2 g _ cur2 3 (0, 0) c2a, Array.getElem?_eq_getElem (by rw [c2b, hcs]; simp at hj; omega)]; rfl) (fun j _ => blk_frozen c2a _) (by simp [Value.oneCell'])
      obtain ⟨cur3, c3a, c3b, c3c⟩ := setCells_row [.int .i64 x] k W2 cur2 c2a (by rw [c2b, hcs]; simp; omega)
      have htk : cur.toList.take k = (l.take k).map (Value.int .i64) := by
        rw [List.map_take, ← hct, List.take_take, Nat.min_eq_left (by omega)]
      have hfin : cur3.toList.take (l.take k ++ x :: l.drop k).length = (l.take k ++ x :: l.drop k).map (Value.int .i64) := by
        rw [c3c, c2c, List.length_singleton, ins_cells _ _ _ _ _ (by rw [Array.length_toList, hcs]; omega), htk, List.map_append, List.map_cons, ← hD, ← List.append_assoc]
        rw [show (l.take k).map (Value.int .i64) ++ Value.int .i64 x :: D = (l.take k).map (Value.int .i64) ++ [Value.int .i64 x] ++ D by simp]
        rw [show (l.take k ++ x :: l.drop k).length = ((l.take k).map (Value.int .i64) ++ [Value.int .i64 x] ++ D).length by simp [hD]]
        exact List.take_left
      have hRf : Kd.R (Kd.int .i64) 3 (W2.setCells g k [.int .i64 x]) base (fun q => ok q ∨ w.heap.size ≤ q) (.slice (some ⟨g, 0, none⟩) (l.take k ++ x :: l.drop k).length cap) (l.take k ++ x :: l.drop k) := R_ofcur c3a (by rw [c3b, c2b, hcs]) hfin (by simp; omega) hcm hbg (Or.inl hog)
      have hll : (l.take k ++ x :: l.drop k).length = l.length + 1 := by simp; omega
      rw [hll] at hRf
      have HF : Aside0 (Kd.R (Kd.int .i64) 3 (W2.setCells g k [.int .i64 x]) base (fun q => ok q ∨ w.heap.size ≤ q) (.slice (some ⟨g, 0, none⟩) (l.length + 1) cap) (l.take k ++ x :: l.drop k)) := ⟨hRf⟩
      have HG : Aside0 (w.heap.size ≤ (W2.setCells g k [.int .i64 x]).heap.size ∧ (∀ q, q < w.heap.size → ¬ ok q → (W2.setCells g k [.int .i64 x]).heap[q]? = w.heap[q]?) ∧ Below base w (W2.setCells g k [.int .i64 x])) := ⟨by rw [(setCells_same _ _ _ _).2.2.2, hs2]; exact Nat.le_refl _, fun q hq hn => (setCells_far _ _ q (fun e => hn (e ▸ hog))).trans (hb2 q (fun e => hn (e ▸ hog))), Go.below_setCells hbg _ _ _ hB2⟩
      have HRUN1 := Aside0.mk hr1
      have HRUN2 := Aside0.mk hr2
      clear hr1 hr2 hRf hfin htk c3a c3b c3c c2a c2b c2c hgs2 hb2 hs2 hB2 hW2 hcl hlen1 hll hcur hct hcs hD hDl
      have hw1 : wrap64 ((k : Int) + 1) = (k : Int) + 1 := by unfold wrap64; omega
      have hb1 : (0 : Int) ≤ (k : Int) + 1 := by omega
      have hb2 : (k : Int) + 1 ≤ (l.length : Int) + 1 := by omega
      have hb3 : (k : Int) ≤ (l.length : Int) + 1 := by omega
      have hb4 : ((k : Int) + 1).toNat = k + 1 := by omega
      go_upto_region 15 with (fail)
      refine start_ (n := 9) (S := fun W => True) (ds := []) #[false, false, false, false, false, false, false, false, false] (by kernel_rfl) rfl rfl trivial (fun hHeld => ?_)
      generalize w.drew = W1 at *
      refine pure_ (i := 0) (N := some 69) (v := ?_) (a' := ?_) #[true, false, false, false, false, false, false, false, false] rfl rfl (by kernel_rfl) (fun _ _ _ h => h) (Or.inl ⟨by rfl, ?_⟩) ?_ ?_
      rotate_left
      · intro w'; go_simp; with_reducible rfl
      rotate_left
      · simp only [Act.put, List.setIfInBounds_toArray, List.set_cons_zero, List.set_cons_succ, i64_w, i32_w]; rfl
      refine pure_ (i := 1) (N := some 70) (v := ?_) (a' := ?_) #[true, true, false, false, false, false, false, false, false] rfl rfl (by kernel_rfl) (fun _ _ _ h => h) (Or.inl ⟨by rfl, ?_⟩) ?_ ?_
      rotate_left
      · intro w'; go_simp; with_reducible rfl
      rotate_left
      · simp only [Act.put, List.setIfInBounds_toArray, List.set_cons_zero, List.set_cons_succ, i64_w, i32_w]; rfl
      refine pure_ (i := 2) (N := some 71) (v := ?_) (a' := ?_) #[true, true, true, false, false, false, false, false, false] rfl rfl (by kernel_rfl) (fun _ _ _ h => h) (Or.inl ⟨by rfl, ?_⟩) ?_ ?_
      rotate_left
      · intro w'; go_simp; with_reducible rfl
      rotate_left
      · simp only [Act.put, List.setIfInBounds_toArray, List.set_cons_zero, List.set_cons_succ, i64_w, i32_w]; rfl
      refine pure_ (i := 3) (N := some 72) (v := ?_) (a' := ?_) #[true, true, true, true, false, false, false, false, false] rfl rfl (by kernel_rfl) (fun _ _ _ h => h) (Or.inl ⟨by rfl, ?_⟩) ?_ ?_
      rotate_left
      · intro w'; go_simp; with_reducible rfl
      rotate_left
      · simp only [Act.put, List.setIfInBounds_toArray, List.set_cons_zero, List.set_cons_succ, i64_w, i32_w]; rfl
      refine pure_ (i := 4) (N := some 73) (v := ?_) (a' := ?_) #[true, true, true, true, true, false, false, false, false] rfl rfl (by kernel_rfl) (fun _ _ _ h => h) (Or.inl ⟨by rfl, ?_⟩) ?_ ?_
      rotate_left
      · intro w'; go_simp; with_reducible rfl
      rotate_left
      · simp only [Act.put, List.setIfInBounds_toArray, List.set_cons_zero, List.set_cons_succ, i64_w, i32_w]; rfl
      refine pure_ (i := 5) (N := some 74) (v := ?_) (a' := ?_) #[true, true, true, true, true, true, false, false, false] rfl rfl (by kernel_rfl) (fun _ _ _ h => h) (Or.inl ⟨by rfl, ?_⟩) ?_ ?_
      rotate_left
      · intro w'; go_simp; with_reducible rfl
      rotate_left
      · simp only [Act.put, List.setIfInBounds_toArray, List.set_cons_zero, List.set_cons_succ, i64_w, i32_w]; rfl
      refine pure_ (i := 6) (N := some 75) (v := ?_) (a' := ?_) #[true, true, true, true, true, true, true, false, false] rfl rfl (by kernel_rfl) (fun _ _ _ h => h) (Or.inl ⟨by rfl, ?_⟩) ?_ ?_
      rotate_left
      · intro w'; go_simp; with_reducible rfl
      rotate_left
      · simp only [Act.put, List.setIfInBounds_toArray, List.set_cons_zero, List.set_cons_succ, i64_w, i32_w]; rfl
      refine pure_ (i := 7) (N := some 76) (v := ?_) (a' := ?_) #[true, true, true, true, true, true, true, true, false] rfl rfl (by kernel_rfl) (fun _ _ _ h => h) (Or.inl ⟨by rfl, ?_⟩) ?_ ?_
      rotate_left
      · intro w'; go_simp; with_reducible rfl
      rotate_left
      · simp only [Act.put, List.setIfInBounds_toArray, List.set_cons_zero, List.set_cons_succ, i64_w, i32_w]; rfl
      refine one_ (i := 8) (N := some 77) #[true, true, true, true, true, true, true, true, true] rfl rfl (by kernel_rfl) (by decide) (fun K hK => ?_)
      refine step_copy_run (by rfl) (.tmp 73) (.tmp 76) 70 70 3 rfl rfl (.slice (some ⟨g, k + 1, none⟩) (l.length - k) (cap - (k + 1))) (.slice (some ⟨g, k, none⟩) (l.length + 1 - k) (cap - k)) ?hs ?hx HRUN1.out ?_
      case hs => rfl
      case hx => rfl
      refine hK.out _ _ trivial (fun _ => ?_)
      clear hK K
      refine norm_ (a' := ?_) ?_ ?_
      rotate_left
      · show Act.put _ (some 77) _ = _; simp only [Act.put, List.setIfInBounds_toArray, List.set_cons_zero, List.set_cons_succ, i64_w, i32_w]; rfl
      refine done_ (by kernel_rfl) ?_
      trace_state
      go_wp2_with ((with_reducible refine gate_builtin (b := .copy) (xs := #[.tmp 80, .tmp 81]) rfl ?_); refine wpList_copy_run rfl (.tmp 80) (.tmp 81) 70 70 3 rfl rfl (.slice (some ⟨g, k, none⟩) (l.length + 1 - k) (cap - k)) (.slice (some ⟨gs, 0, none⟩) 1 1) rfl rfl HRUN2.out ?_)
      go_ret
      exact ⟨_, rfl, HF.out, HG.out⟩
    · have d2 : decide ((cap : Int) < (l.length : Int) + 1) = true := decide_eq_true (by omega)
      have hck0 : ¬ cap = k := by omega
      have hRt := Kd.R_take hR (m := k) (by omega)
      have hown := Kd.own_of_R hRt
      have hlk : (l.take k).length = k := by rw [List.length_take]; omega
      rw [hlk] at hown
      obtain ⟨C, w1, hz, hown1, hg1⟩ := run_zeros_grow (w := w) 70 base g cap k (l.length + 1 - k) _ hown (by omega) (by omega) (by omega)
      rw [show k + (l.length + 1 - k) = l.length + 1 by omega] at hz hown1
      rw [show ((l.length + 1 - k : Nat) : Int) = (l.length : Int) + 1 - (k : Int) by omega] at hz
      obtain ⟨ho1, ho2⟩ := hown1
      rcases ho2 with ⟨hv, _⟩ | ⟨G, C', LG, hv, hG0, hGh, hGn, hGm, hGs, hGt⟩
      · cases hv
      simp only [Value.slice.injEq, Option.some.injEq, Addr.mk.injEq, and_true, true_and] at hv
      obtain ⟨rfl, rfl⟩ := hv
      have hGs1 : LG.size = C := by rw [hGs, Nat.mul_one]
      have hwg : g < w.heap.size := blk_lt hcur
      have hgsw : gs < w.heap.size := blk_lt HSB.out
      have hgs1 : w1.heap[gs]? = some (.cells #[.int .i64 x] 3 (0, 0)) := (hg1.block gs hgsw (by simp)).trans HSB.out
      have hr1 := run_copy_cells (P := Tryz.prog) w1 70 70 3 3 w.heap.size k (l.length + 1 - k) (C - k) ⟨gs, 0, none⟩ 1 1 [.int .i64 x] Tryz.underlying70 (by kernel_rfl) (by show 1 = min _ _; omega)
        (fun j u hj => by
          have hj0 : j = 0 := by have := (List.getElem?_eq_some_iff.1 hj).1; simp at this; omega
          subst hj0
          have hu : u = .int .i64 x := by simpa using hj.symm
          subst hu
          exact (blk_cell hgs1 0).trans rfl)
        (fun j hj => by rw [cell_of_row w1 _ _ LG 3 (0, 0) hGh, Array.getElem?_eq_getElem (by simp at hj; omega)]; rfl) (fun j _ => blk_frozen hGh _) (by simp [Value.oneCell'])
      obtain ⟨c2, c2a, c2b, c2c⟩ := setCells_row [.int .i64 x] k w1 LG hGh (by simp; omega)
      obtain ⟨W2, hW2⟩ : ∃ W, W = w1.setCells w.heap.size k [.int .i64 x] := ⟨_, rfl⟩
      rw [← hW2] at hr1 c2a
      have hb2 : ∀ q, q < w.heap.size → W2.heap[q]? = w.heap[q]? := fun q hq => by rw [hW2]; exact (setCells_far _ _ q (by omega)).trans (hg1.block q hq (by simp))
      have hs2 : W2.heap.size = w1.heap.size := by rw [hW2, (setCells_same _ _ _ _).2.2.2]
      have hB2 : Below base w W2 := by rw [hW2]; exact Go.below_setCells hbw _ _ _ ((Below.refl _ _).grown hg1 hbw (fun k hk => by cases hk))
      have hcur2 : W2.heap[g]? = some (.cells cur 3 (0, 0)) := (hb2 g hwg).trans hcur
      obtain ⟨D, hD⟩ : ∃ D, D = (l.drop k).map (Value.int .i64) := ⟨_, rfl⟩
      have hDl : D.length = l.length - k := by rw [hD, List.length_map, List.length_drop]
      have hcl := cells_of hcs hct hcur2
      have hr2 := run_copy_cells (P := Tryz.prog) W2.drew 70 70 3 3 w.heap.size (k + 1) (l.length - k) (C - (k + 1)) ⟨g, k, none⟩ (l.length - k) (cap - k) D Tryz.underlying70 (by kernel_rfl) (by rw [hDl]; show _ = min _ _; omega)
        (fun j u hj => by
          rw [hD] at hj
          have hjl : j < (l.drop k).length := by have := (List.getElem?_eq_some_iff.1 hj).1; rwa [List.length_map] at this
          rw [List.getElem?_map, List.getElem?_eq_getElem hjl] at hj
          have hu : u = .int .i64 (l.drop k)[j] := by simpa using hj.symm
          rw [hu, List.getElem_drop, add_at]
          exact hcl.1 (k + j) (by rw [List.length_drop] at hjl; omega))
        (fun j hj => by rw [hDl] at hj; rw [cell_of_row W2.drew _ _ c2 3 (0, 0) c2a, Array.getElem?_eq_getElem (by rw [c2b]; omega)]; rfl) (fun j _ => blk_frozen (w := W2.drew) c2a _) (fun u hu => by rw [hD] at hu; obtain ⟨y, _, rfl⟩ := List.mem_map.1 hu; rfl)
      rw [hDl] at hr2
      obtain ⟨c3, c3a, c3b, c3c⟩ := setCells_row D (k + 1) W2.drew c2 c2a (by rw [hDl, c2b]; omega)
      have htk : LG.toList.take k = (l.take k).map (Value.int .i64) := by
        have h0 : LG.toList.take k = (LG.toList.take ((l.length + 1) * 1)).take k := by rw [List.take_take, Nat.min_eq_left (by omega)]
        rw [h0, hGt]
        exact List.take_left' (by rw [encs_length, hlk])
      have hfin : c3.toList.take (l.take k ++ x :: l.drop k).length = (l.take k ++ x :: l.drop k).map (Value.int .i64) := by
        have e1 : (LG.toList.take k ++ [Value.int .i64 x] ++ LG.toList.drop (k + 1)).take (k + 1) = LG.toList.take k ++ [Value.int .i64 x] := List.take_left' (by rw [List.length_append, List.length_take, Array.length_toList]; simp; omega)
        rw [c3c, c2c, List.length_singleton, e1, htk, List.map_append, List.map_cons, ← hD]
        rw [show (l.take k).map (Value.int .i64) ++ Value.int .i64 x :: D = (l.take k).map (Value.int .i64) ++ [Value.int .i64 x] ++ D by simp]
        rw [show (l.take k ++ x :: l.drop k).length = ((l.take k).map (Value.int .i64) ++ [Value.int .i64 x] ++ D).length by simp [hD]]
        exact List.take_left
      have hll : (l.take k ++ x :: l.drop k).length = l.length + 1 := by simp; omega
      have hRf : Kd.R (Kd.int .i64) 3 (W2.drew.setCells w.heap.size (k + 1) D) base (fun q => ok q ∨ w.heap.size ≤ q) (.slice (some ⟨w.heap.size, 0, none⟩) (l.take k ++ x :: l.drop k).length C) (l.take k ++ x :: l.drop k) := R_ofcur c3a (by rw [c3b, c2b, hGs1]) hfin (by rw [hll]; exact hGn) hGm hbw (Or.inr (Nat.le_refl _))
      rw [hll] at hRf
      have HF := Aside0.mk hRf
      have HG : Aside0 (w.heap.size ≤ (W2.drew.setCells w.heap.size (k + 1) D).heap.size ∧ (∀ q, q < w.heap.size → ¬ ok q → (W2.drew.setCells w.heap.size (k + 1) D).heap[q]? = w.heap[q]?) ∧ Below base w (W2.drew.setCells w.heap.size (k + 1) D)) := ⟨by rw [(setCells_same _ _ _ _).2.2.2]; show _ ≤ W2.heap.size; rw [hs2]; exact hg1.size, fun q hq hn => (setCells_far _ _ q (by omega)).trans (hb2 q hq), Go.below_setCells hbw _ _ _ (below_step0 hB2)⟩
      have HRUNZ := Aside0.mk hz
      have HRUN1 := Aside0.mk hr1
      have HRUN2 := Aside0.mk hr2
      have hCk : ¬ C = k := by omega
      have hCk1 : ¬ C = k + 1 := by omega
      have hi1 : (0 : Int) ≤ (k : Int) + 1 := by omega
      have hi2 : (k : Int) + 1 ≤ (l.length : Int) + 1 := by omega
      have hi3 : (k : Int) ≤ (l.length : Int) + 1 := by omega
      have hi4 : ((k : Int) + 1).toNat = k + 1 := by omega
      have hi5 : (k : Int) ≤ (l.length : Int) := by omega
      have HW1 := Aside0.mk (wrap_succ hk hl)
      clear hR hsb hgc hRt hown hlk hz ho1 hg1 hG0 hGh hGt hGs hGs1 hgs1 hr1 c2a c2b c2c hW2 hb2 hs2 hB2 hcur2 hD hDl hcl hr2 c3a c3b c3c htk hfin hll hRf hcur hcs hct
      go_enter Tryz.func46, Tryz.ntmps46
      go_upto_region 10 with ((with_reducible refine gate_builtin (b := .append) (xs := #[.tmp 34, .tmp 39]) rfl ?_); at_builtin; refine wpList_append_run rfl (.tmp 34) (.tmp 39) 70 3 70 rfl rfl (.slice (some ⟨g, 0, none⟩) k cap) (.int .i64 ((l.length : Int) + 1 - (k : Int))) rfl rfl HRUNZ.out ?_)
      go_upto_region 11 with ((with_reducible refine gate_builtin (b := .copy) (xs := #[.tmp 43, .tmp 44]) rfl ?_); refine wpList_copy_run rfl (.tmp 43) (.tmp 44) 70 70 3 rfl rfl (.slice (some ⟨w.heap.size, k, none⟩) (l.length + 1 - k) (C - k)) (.slice (some ⟨gs, 0, none⟩) 1 1) rfl rfl HRUN1.out ?_)
      have hw1 := HW1.out
      refine start_ (n := 9) (S := fun W => True) (ds := []) #[false, false, false, false, false, false, false, false, false] (by kernel_rfl) rfl rfl trivial (fun hHeld => ?_)
      generalize W2.drew = W3 at *
      refine pure_ (i := 0) (N := some 46) (v := ?_) (a' := ?_) #[true, false, false, false, false, false, false, false, false] rfl rfl (by kernel_rfl) (fun _ _ _ h => h) (Or.inl ⟨by rfl, ?_⟩) ?_ ?_
      rotate_left
      · intro w'; go_simp; with_reducible rfl
      rotate_left
      · simp only [Act.put, List.setIfInBounds_toArray, List.set_cons_zero, List.set_cons_succ, i64_w, i32_w]; rfl
      refine pure_ (i := 1) (N := some 47) (v := ?_) (a' := ?_) #[true, true, false, false, false, false, false, false, false] rfl rfl (by kernel_rfl) (fun _ _ _ h => h) (Or.inl ⟨by rfl, ?_⟩) ?_ ?_
      rotate_left
      · intro w'; go_simp; with_reducible rfl
      rotate_left
      · simp only [Act.put, List.setIfInBounds_toArray, List.set_cons_zero, List.set_cons_succ, i64_w, i32_w]; rfl
      refine pure_ (i := 2) (N := some 48) (v := ?_) (a' := ?_) #[true, true, true, false, false, false, false, false, false] rfl rfl (by kernel_rfl) (fun _ _ _ h => h) (Or.inl ⟨by rfl, ?_⟩) ?_ ?_
      rotate_left
      · intro w'; go_simp; with_reducible rfl
      rotate_left
      · simp only [Act.put, List.setIfInBounds_toArray, List.set_cons_zero, List.set_cons_succ, i64_w, i32_w]; rfl
      refine pure_ (i := 3) (N := some 49) (v := ?_) (a' := ?_) #[true, true, true, true, false, false, false, false, false] rfl rfl (by kernel_rfl) (fun _ _ _ h => h) (Or.inl ⟨by rfl, ?_⟩) ?_ ?_
      rotate_left
      · intro w'; go_simp; with_reducible rfl
      rotate_left
      · simp only [Act.put, List.setIfInBounds_toArray, List.set_cons_zero, List.set_cons_succ, i64_w, i32_w]; rfl
      refine pure_ (i := 4) (N := some 50) (v := ?_) (a' := ?_) #[true, true, true, true, true, false, false, false, false] rfl rfl (by kernel_rfl) (fun _ _ _ h => h) (Or.inl ⟨by rfl, ?_⟩) ?_ ?_
      rotate_left
      · intro w'; go_simp; with_reducible rfl
      rotate_left
      · simp only [Act.put, List.setIfInBounds_toArray, List.set_cons_zero, List.set_cons_succ, i64_w, i32_w]; rfl
      refine pure_ (i := 5) (N := some 51) (v := ?_) (a' := ?_) #[true, true, true, true, true, true, false, false, false] rfl rfl (by kernel_rfl) (fun _ _ _ h => h) (Or.inl ⟨by rfl, ?_⟩) ?_ ?_
      rotate_left
      · intro w'; go_simp; with_reducible rfl
      rotate_left
      · simp only [Act.put, List.setIfInBounds_toArray, List.set_cons_zero, List.set_cons_succ, i64_w, i32_w]; rfl
      refine pure_ (i := 6) (N := some 52) (v := ?_) (a' := ?_) #[true, true, true, true, true, true, true, false, false] rfl rfl (by kernel_rfl) (fun _ _ _ h => h) (Or.inl ⟨by rfl, ?_⟩) ?_ ?_
      rotate_left
      · intro w'; go_simp; with_reducible rfl
      rotate_left
      · simp only [Act.put, List.setIfInBounds_toArray, List.set_cons_zero, List.set_cons_succ, i64_w, i32_w]; rfl
      refine pure_ (i := 7) (N := some 53) (v := ?_) (a' := ?_) #[true, true, true, true, true, true, true, true, false] rfl rfl (by kernel_rfl) (fun _ _ _ h => h) (Or.inl ⟨by rfl, ?_⟩) ?_ ?_
      rotate_left
      · intro w'; go_simp; with_reducible rfl
      rotate_left
      · simp only [Act.put, List.setIfInBounds_toArray, List.set_cons_zero, List.set_cons_succ, i64_w, i32_w]; rfl
      refine one_ (i := 8) (N := some 54) #[true, true, true, true, true, true, true, true, true] rfl rfl (by kernel_rfl) (by decide) (fun K hK => ?_)
      refine step_copy_run (by rfl) (.tmp 50) (.tmp 53) 70 70 3 rfl rfl (.slice (some ⟨w.heap.size, k + 1, none⟩) (l.length - k) (C - (k + 1))) (.slice (some ⟨g, k, none⟩) (l.length - k) (cap - k)) ?hs ?hx HRUN2.out ?_
      case hs => rfl
      case hx => rfl
      refine hK.out _ _ trivial (fun _ => ?_)
      clear hK K
      refine norm_ (a' := ?_) ?_ ?_
      rotate_left
      · show Act.put _ (some 54) _ = _; simp only [Act.put, List.setIfInBounds_toArray, List.set_cons_zero, List.set_cons_succ, i64_w, i32_w]; rfl
      refine done_ (by kernel_rfl) ?_
      go_wp2
      go_ret
      exact ⟨_, rfl, HF.out, HG.out⟩
end Go.Proofs.YthgfdnffnbclpaaGreatDoor.PAll
namespace Go.Proofs.YthgfdnffnbclpaaGreatDoor.PAll
open Go.RowKit Go.Proofs.YthgfdnffnbclpaaGreatDoorW.PrintWords Go.Proofs.YthgfdnffnbclpaaGreatDoorW.PrintLast Go.Proofs.YthgfdnffnbclpaaGreatDoorW.PrintMore

end Go.Proofs.YthgfdnffnbclpaaGreatDoor.PAll
namespace Go.Proofs.YthgfdnffnbclpaaGreatDoor.PAll
open Go.RowKit Go.Proofs.YthgfdnffnbclpaaGreatDoorW.PrintWords Go.Proofs.YthgfdnffnbclpaaGreatDoorW.PrintLast Go.Proofs.YthgfdnffnbclpaaGreatDoorW.PrintMore

theorem le_of_lt_pw {l : List Int} (h : l.Pairwise (· < ·)) : l.Pairwise (· ≤ ·) := h.imp (fun h => by omega)
theorem at_take (c : Int) : ∀ (l : List Int), l.Pairwise (· ≤ ·) → l.takeWhile (· < c) = l.take (atI c l) ∧ l.dropWhile (· < c) = l.drop (atI c l) ∧ atI c l ≤ l.length
  | [], _ => ⟨rfl, rfl, Nat.le_refl _⟩
  | a :: l, h => by
    rw [List.pairwise_cons] at h
    obtain ⟨e1, e2, e3⟩ := at_take c l h.2
    unfold atI at *
    by_cases q : a < c
    · have d : decide (a < c) = true := decide_eq_true q
      rw [List.takeWhile_cons_of_pos (p := fun x => decide (x < c)) d, List.dropWhile_cons_of_pos (p := fun x => decide (x < c)) d, List.countP_cons_of_pos (p := fun x => decide (x < c)) d, List.take_succ_cons, List.drop_succ_cons, e1, e2]
      exact ⟨rfl, rfl, by simp; omega⟩
    · have d : decide (a < c) = false := decide_eq_false q
      have h0 : l.countP (· < c) = 0 := List.countP_eq_zero.2 (fun x hx => by have := h.1 x hx; simp; omega)
      rw [List.takeWhile_cons_of_neg (p := fun x => decide (x < c)) (by rw [d]; decide), List.dropWhile_cons_of_neg (p := fun x => decide (x < c)) (by rw [d]; decide), List.countP_cons_of_neg (p := fun x => decide (x < c)) (by rw [d]; decide), h0]
      exact ⟨rfl, rfl, Nat.zero_le _⟩
theorem insI_at (c : Int) (l : List Int) (h : l.Pairwise (· ≤ ·)) : insI c l = l.take (atI c l) ++ c :: l.drop (atI c l) := by
  unfold insI
  rw [(at_take c l h).1, (at_take c l h).2.1]
set_option maxHeartbeats 4000000 in
set_option maxRecDepth 100000 in
theorem add_walk (k : Nat) (A0 : Option Addr) (c0 : Nat) (s : List S49) (nm cn : ByteArray) (v : Bool) (w : World) (hS : Kd.C k49 w A0 s.length s) (hc0 : s.length ≤ c0) (hv : scheme_Valid.f k s = some v) (hsm : v = true → smallSch s ∧ ∀ t ∈ s, t.f4.Pairwise (· < ·)) (hL : LaidL w) :
    Calls Tryz.prog 14 #[.slice A0 s.length c0, .string nm, .string cn] w fun e w' => ∃ v0 : Value, e = .returned (.tuple #[v0, .int .i64 (addG v s nm cn).2]) ∧ Kd.S k49a 72 w' w.heap.size (fun _ => True) v0 (addG v s nm cn).1 ∧ Below w.heap.size w w' := by
  have HP := Aside0.mk (place_walk k A0 c0 s nm cn v w hS hc0 hv hL)
  have HS := Aside0.mk hS
  have HSM := Aside0.mk hsm
  clear hS hv hsm hL
  unfold addG
  have hrng := fun n c h => placeG_range (v := v) (s := s) (nm := nm) (cn := cn) (n := n) (c := c) h
  generalize placeG v s nm cn = p at *
  obtain ⟨pn, pc, pe⟩ := p
  simp only at HP
  by_cases q : pe = 0
  case neg =>
    have d1 : (pe == 0) = false := beq_eq_false_iff_ne.mpr q
    have d2 : (pe != 0) = true := by rw [bne, d1]; rfl
    simp only [if_neg q]
    clear q hrng
    go_enter Tryz.func14, Tryz.ntmps14
    go_wp2_with (go_at_call 44; refine HP.out.mono ?_; rintro e w1 ⟨rfl, hb1⟩)
    go_ret2
    exact ⟨_, rfl, Kd.S_nil _ _ _ _ _, hb1⟩
  subst q
  obtain ⟨rfl, hn0, hns, hc0', hcl⟩ := hrng pn pc rfl
  clear hrng
  obtain ⟨hss, hso⟩ := HSM.out rfl
  obtain ⟨n, rfl⟩ : ∃ m : Nat, pn = (m : Int) := ⟨pn.toNat, by omega⟩
  have hlt : n < s.length := by omega
  simp only [if_pos, Int.toNat_natCast]
  rw [rdT49 hlt]
  obtain ⟨aa, P1, p1, P2, p2, P3, p3, P4, p4, haa, z0, z1, z2, z3, z4, m1, C1, m2, C2, m3, C3, m4, C4⟩ := at_T49 HS.out (n : Int) hn0 hns
  subst haa
  rw [rdT49 hlt] at z0 z1 z2 z3 z4 m1 C1 m2 C2 m3 C3 m4 C4
  rw [Int.toNat_natCast] at z0 z1 z2 z3 z4
  have hgt : s[n]? = some s[n] := List.getElem?_eq_getElem hlt
  have HPW := Aside0.mk (hso s[n] (List.getElem_mem hlt))
  have hl4 : s[n].f4.length ≤ 2000000 := (hss.2 s[n] (List.getElem_mem hlt)).2.2.2
  have HSS := Aside0.mk hss
  have HGT := Aside0.mk hgt
  clear hgt hso hss hcl
  generalize s[n] = t at *
  have HK : Aside0 (∀ W, Below w.heap.size w W → W.cell? (aa.add (n * 5)) = some (.string t.f0) ∧ W.cell? ⟨(aa.add (n * 5)).block, (aa.add (n * 5)).off + 1, none⟩ = some (.slice P1 t.f1.length p1) ∧ W.cell? ⟨(aa.add (n * 5)).block, (aa.add (n * 5)).off + 2, none⟩ = some (.slice P2 t.f2.length p2) ∧ W.cell? ⟨(aa.add (n * 5)).block, (aa.add (n * 5)).off + 3, none⟩ = some (.slice P3 t.f3.length p3) ∧ W.cell? ⟨(aa.add (n * 5)).block, (aa.add (n * 5)).off + 4, none⟩ = some (.slice P4 t.f4.length p4)) := ⟨fun W hW => ⟨(hW.cell (World.block_lt_of_cell? w _ z0)).trans z0, (hW.cell (World.block_lt_of_cell? w _ z1)).trans z1, (hW.cell (World.block_lt_of_cell? w _ z2)).trans z2, (hW.cell (World.block_lt_of_cell? w _ z3)).trans z3, (hW.cell (World.block_lt_of_cell? w _ z4)).trans z4⟩⟩
  have HI : Aside0 (∀ W, Below w.heap.size w W → Calls Tryz.prog 45 #[.slice P4 t.f4.length p4, .int .i64 pc] W fun e w' => e = .returned (.tuple #[.int .i64 (atI pc t.f4 : Nat), .bool (t.f4.any (· == pc))]) ∧ Below W.heap.size W w') := ⟨fun W hW => search_walk P4 p4 t.f4 pc W (Kd.C_below C4 hW) m4 (by omega) (le_of_lt_pw HPW.out)⟩
  clear z0 z1 z2 z3 z4 m1 C1 m2 C2 m3 C3 m4 C4
  cases hany : t.f4.any (· == pc) with
  | true =>
    simp only [if_pos]
    rw [hany] at HI
    clear hany
    go_enter Tryz.func14, Tryz.ntmps14
    go_wp2_with (first | (go_at_call 44; refine HP.out.mono ?_; rintro e w1 ⟨rfl, hb1⟩; obtain ⟨y0, y1, y2, y3, y4⟩ := HK.out _ hb1) | (go_at_call 45; refine (HI.out _ hb1).mono ?_; rintro e w2 ⟨rfl, hb2⟩))
    go_ret2
    exact ⟨_, rfl, Kd.S_nil _ _ _ _ _, below_step hb1 hb2⟩
  | false =>
    rw [hany] at HI
    clear hany
    rw [if_neg (by decide)]
    have HCP : Aside0 (∀ W, Below w.heap.size w W → Calls Tryz.prog 34 #[.slice (some aa) s.length c0] W fun e w' => ∃ v0_ : Value, e = .returned (v0_) ∧ Kd.S k49a 72 w' W.heap.size (fun _ => True) v0_ s ∧ Below W.heap.size W w') := ⟨fun W hW => copiedA_walk (some aa) c0 s W (Kd.C_below HS.out hW) hc0 HSS.out⟩
    have HDP : Aside0 (0 < s.length) := ⟨by omega⟩
    have HAT := Aside0.mk (insI_at pc t.f4 (le_of_lt_pw HPW.out))
    have HLE := Aside0.mk (at_take pc t.f4 (le_of_lt_pw HPW.out)).2.2
    go_enter Tryz.func14, Tryz.ntmps14
    go_upto_region 8 with (first | (go_at_call 44; refine HP.out.mono ?_; rintro e w1 ⟨rfl, hb1⟩; obtain ⟨y0, y1, y2, y3, y4⟩ := HK.out _ hb1) | (go_at_call 45; refine (HI.out _ hb1).mono ?_; rintro e w2 ⟨rfl, hb2⟩) | (go_at_call 34; refine (HCP.out _ (below_step hb1 hb2)).mono ?_; rintro e w3 ⟨v3, rfl, hv3, hb3⟩; obtain ⟨g, cap, ev, hg1, hg2, gcells, hgc⟩ := Kd.S_form hv3 HDP.out; subst ev))
    have HB3 := Aside0.mk (below_step (below_step hb1 hb2) hb3)
    obtain ⟨okx, A4, c4, hx4, hR4, hok4, hgs, hgb, hput⟩ := S_ix (Kd.S_lower hv3 (below_step hb1 hb2).size) n t HGT.out
    have hba : Below w3.heap.size w3 (w3.alloc (.cells #[.int .i64 pc] 3)) := (Below.refl _ _).alloc (Nat.le_refl _) _
    have hsa : (w3.alloc (.cells #[.int .i64 pc] 3)).heap.size = w3.heap.size + 1 := Array.size_push _
    have HINS := Aside0.mk (insOne_walk A4 c4 t.f4 (atI pc t.f4) pc w3.heap.size w.heap.size (fun q => okx q ∧ q < w3.heap.size) (w3.alloc (.cells #[.int .i64 pc] 3)) (Kd.R_below (Kd.R_mono (Kd.R_bound hR4) (fun q hq => ⟨hq.1, hq.2.2.1⟩)) hba) HLE.out (Go.Deep.blk_alloc_new w3 _) (fun h => by omega) (by omega) (by have := HB3.out.size; omega))
    have HPUT := Aside0.mk hput
    have HBA := Aside0.mk hba
    clear hb1 hb2 hb3 y0 y1 y2 y3 y4 hv3 hg1 hg2 hgc hR4 hput HP HI HCP HK hba
    go_upto_region 9 with (go_at_call 46; refine HINS.out.mono ?_; rintro e w5 ⟨v5, rfl, hv5, hsz5, hfar5, hb5⟩; rw [← HAT.out] at hv5; obtain ⟨A5, c5, e5⟩ := Kd.R_slice hv5; subst e5; obtain ⟨hc5, hf5, hS5⟩ := HPUT.out w5 (insI pc t.f4) (.slice A5 (insI pc t.f4).length c5) (by omega) (fun q hq hn => (hfar5 q (by omega) (fun h => hn h.1)).trans (HBA.out.block q hq)) (Kd.R_mono hv5 (fun q hq => hq.elim (fun h => Or.inl h.1) (fun h => Or.inr ⟨trivial, by omega⟩))))
    have hB7 : Aside0 (Below w.heap.size w (w5.setCell ⟨g, n * 5 + 4, none⟩ (.slice A5 (insI pc t.f4).length c5))) := ⟨Below.setCell ((below_step HB3.out HBA.out).trans hb5) (by show w.heap.size ≤ g; exact hgb) _⟩
    have HS7 := Aside0.mk hS5
    clear hS5 hc5 hf5 hv5 hb5 hx4 hfar5 hsz5
    go_wp2
    go_ret2
    exact ⟨_, rfl, HS7.out, hB7.out⟩

end Go.Proofs.YthgfdnffnbclpaaGreatDoor.PAll
