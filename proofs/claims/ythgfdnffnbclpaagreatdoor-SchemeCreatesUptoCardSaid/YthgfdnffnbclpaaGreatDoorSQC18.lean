import Derived.Test.YthgfdnffnbclpaaGreatDoorSQC06
import Derived.Test.YthgfdnffnbclpaaGreatDoorSQC17
import Derived.Test.YthgfdnffnbclpaaGreatDoorSQC14
import Derived.Test.YthgfdnffnbclpaaGreatDoorSQC04
import Derived.Lib.SlicesSearch
import Derived.JoinedCond
import Derived.HandedShaped
import Derived.Test.YthgfdnffnbclpaaGreatDoorSQC16
set_option linter.unusedVariables false
set_option linter.unusedSimpArgs false
namespace Go.Proofs.YthgfdnffnbclpaaGreatDoor.PAll
open Go.RowKit Go.Proofs.YthgfdnffnbclpaaGreatDoorW.PrintWords Go.Proofs.YthgfdnffnbclpaaGreatDoorW.PrintLast Go.Proofs.YthgfdnffnbclpaaGreatDoorW.PrintMore
theorem zdB {W : World} {base : Nat} {ok : Nat → Prop} {g n cap : Nat} {xs : List Int} (h : Kd.R (Kd.int .i64) 3 W base ok (.slice (some ⟨g, 0, none⟩) n cap) xs) (i : Nat) (hi : i < xs.length) :
  W.cell? ⟨g, i, none⟩ = some (.int .i64 (xs.getD i 0)) ∧ W.frozen? ⟨g, i, none⟩ = false ∧ ∀ u : Int, Kd.R (Kd.int .i64) 3 (W.setCell ⟨g, i, none⟩ (.int .i64 u)) base ok (.slice (some ⟨g, 0, none⟩) n cap) (xs.set i u) := by
 have hn := (Kd.R_reads' h).1
 obtain ⟨c, hcl, hM, hcc⟩ := Kd.R_getA h (0 : Int) (i : Int) (by omega) (by omega)
 have hM2 : c = [.int .i64 (xs.getD i 0)] := by rw [Int.toNat_natCast] at hM; exact hM
 subst hM2
 have h1 := hcc 0 _ rfl
 rw [zaI] at h1
 have h2 : W.cell? ⟨g, i, none⟩ = some (.int .i64 (xs.getD i 0)) := by
  have e : ((i : Int).toNat * (Kd.int .i64).sz + 0) = i := by rw [Int.toNat_natCast]; exact Nat.mul_one i
  rw [e] at h1; exact h1
 obtain ⟨g', cap', ev, _, _, cells, hgc⟩ := Kd.R_form h (by omega)
 simp only [Value.slice.injEq, Option.some.injEq, Addr.mk.injEq, and_true] at ev
 obtain ⟨⟨rfl, _⟩, _, _⟩ := ev
 refine ⟨h2, zaf hgc _, fun u => ?_⟩
 obtain ⟨s1, s2⟩ := Kd.R_seg h (i : Int) (by omega) (by omega) (c := [.int .i64 (xs.getD i 0)]) (seg := [.int .i64 u]) (j := 0) rfl (fun j q hj => by have := hcc j q hj; rwa [zaI] at this) (by show 0 + 1 ≤ 1; omega) (x' := u) (okp := fun _ => False) rfl (fun k hk => hk.elim)
 have e : ((i : Int).toNat * (Kd.int .i64).sz + 0) = i := by rw [Int.toNat_natCast]; exact Nat.mul_one i
 rw [e, Int.toNat_natCast] at s1
 exact s1
set_option maxHeartbeats 4000000 in
set_option maxRecDepth 100000 in
theorem zdA (A0 : Option Addr) (c0 : Nat) (l r : List Int) (w : World) (hC : Kd.C (Kd.int .i64) w A0 l.length l) (hc : l.length ≤ c0) (hl : l.length ≤ 3000000) (hr : r.Perm l) (hrs : r.Pairwise (· ≤ ·)) :
  Calls Tryz.prog 43 #[.slice A0 l.length c0] w fun e w' => ∃ v, e = .returned v ∧ Kd.R (Kd.int .i64) 3 w' w.heap.size (fun _ => True) v r ∧ Below w.heap.size w w' := by
 have HC := Aside0.mk hC
 have HW := Aside0.mk (Below.refl w.heap.size w)
 have HRP := Aside0.mk hr
 have HRS := Aside0.mk hrs
 clear hC hr hrs
 go_enter Tryz.func43, Tryz.ntmps43
 go_wp2_with (first
  | ((with_reducible refine zaK (N := 7) rfl ?_); refine Kd.R_lit (Kd.int .i64) _ 3 ?hg (N := 7) ?hd (xs := ([] : List (Int))) (inner := []) (ok := fun _ => True) (okp := fun _ => True) ?hr ?hp (fun _ hk => hk) trivial (Below.refl _ _) (Nat.le_refl _) (by simp) ?_; (case hd => rfl); (case hg => rfl); (case hr => first | (go_simp; done) | (go_simp; rfl)); (case hp => exact (Reps.none _ _)); intro v5 w6 ho7 hb hg_ hnew_; clear hg_ hnew_; have HO5 := Aside0.mk (Kd.R_lower ho7 (zal HW.out)); have n2_ := Aside0.mk (below_step HW.out hb); clear HW; have HW := n2_; clear n2_ hb ho7)
  | ((with_reducible refine zam (b := .append) (xs := #[.tmp 7, .tmp 8]) rfl ?_); at_builtin; refine Kd.R_append_rows (Kd.int .i64) (w0 := w) w.heap.size rfl (.tmp 7) (.tmp 8) 70 3 (.int .i64 0) 8 rfl Tryz.underlying70 zeY rfl (by decide) (by omega) v5 [] l _ _ _ (fun _ => True) (fun _ => False) rfl rfl ?aO ?aR (fun _ _ h => h) (fun _ h => h.elim) ?aF ?aB ?aS ?aL ?_; (case aR => exact Kd.C_below HC.out HW.out); (case aB => exact HW.out); (case aF => exact (fun _ _ => trivial)); (case aO => exact HO5.out); (case aS => exact zal HW.out); (case aL => simp; omega); intro v7 w8 ho hb hg hat; rw [List.nil_append] at ho; obtain ⟨A9, c9, e9⟩ := Kd.R_slice ho; subst e9; have HO7 := Aside0.mk ho; have HB8 := Aside0.mk hb; clear ho hb hg hat))
 clear HO5 HW
 go_loopg [4] l.length (fun gk v4 wx => ∃ (i : Nat) (cur : List Int), i + gk = l.length ∧ v4 = .int .i64 i ∧ Aside0 (cur.Perm l) ∧ Aside0 (Upto cur i) ∧ Aside0 (Kd.R (Kd.int .i64) 3 wx w.heap.size (fun _ => True) (.slice A9 l.length c9) cur) ∧ Aside0 (Below w.heap.size w wx))
 case atStart => exact ⟨0, l, by omega, rfl, ⟨List.Perm.refl _⟩, ⟨zi5 _⟩, HO7, HB8⟩
 case round =>
  clear HO7 HB8
  obtain ⟨i, cur, hi, rfl, HP, HU, HO, HB⟩ := hrel
  have HCL := Aside0.mk HP.out.length_eq
  cases gk with
  | zero =>
   have hii : ¬ (i : Int) < (l.length : Int) := by omega
   have e : r = cur := zfc _ _ (HRP.out.trans HP.out.symm) HRS.out (zgu (by rw [HCL.out]; rw [show l.length = i by omega]; exact HU.out))
   have HO2 : Aside0 (Kd.R (Kd.int .i64) 3 wr w.heap.size (fun _ => True) (.slice A9 l.length c9) r) := ⟨by rw [e]; exact HO.out⟩
   clear e
   go_wp2
   go_ret
   exact ⟨_, rfl, HO2.out, HB.out⟩
  | succ gk =>
   have hii : (i : Int) < (l.length : Int) := by omega
   have hi0 : (0 : Int) ≤ (i : Int) := by omega
   obtain ⟨g, cap, ev, _⟩ := Kd.R_form HO.out (by rw [HCL.out]; omega)
   rw [HCL.out] at ev
   simp only [Value.slice.injEq, true_and] at ev
   obtain ⟨eA, eC⟩ := ev
   subst eA
   subst eC
   have HLS : Aside0 (zel cur i (i + 1)) := ⟨zgi _ _⟩
   go_wp2
   clear HCL
   go_loopg [5] (l.length - (i + 1)) (fun gj v5 wx => ∃ (j : Nat) (cur : List Int), j + gj = l.length ∧ i < j ∧ v5 = .int .i64 j ∧ Aside0 (cur.Perm l) ∧ Aside0 (Upto cur i) ∧ Aside0 (zel cur i j) ∧ Aside0 (Kd.R (Kd.int .i64) 3 wx w.heap.size (fun _ => True) (.slice (some ⟨g, 0, none⟩) l.length c9) cur) ∧ Aside0 (Below w.heap.size w wx))
   case atStart => exact ⟨i + 1, cur, by omega, by omega, rfl, HP, HU, HLS, HO, HB⟩
   case round =>
    clear HP HU HLS HO HB
    obtain ⟨j, cu, hj, hij, rfl, HP, HU, HLS, HO, HB⟩ := hrel
    have HCL := Aside0.mk HP.out.length_eq
    cases gk with
    | zero =>
     have hjj : ¬ (j : Int) < (l.length : Int) := by omega
     have HU2 : Aside0 (Upto cu (i + 1)) := ⟨ziW HU.out (by rw [HCL.out, show l.length = j by omega]; exact HLS.out)⟩
     clear HU HLS HCL
     go_wp2
     go_roundg gk
     case measure => omega
     case rel => exact ⟨i + 1, cu, by omega, by first | rfl | (simp; done) | (simp; unfold wrap64; omega), HP, HU2, HO, HB⟩
    | succ gj =>
     have hjl : j < cu.length := by rw [HCL.out]; omega
     have hil : i < cu.length := by rw [HCL.out]; omega
     have hjj : (j : Int) < (l.length : Int) := by omega
     have hj0 : (0 : Int) ≤ (j : Int) := by omega
     obtain ⟨xj, fj, _⟩ := zdB HO.out j hjl
     obtain ⟨xi, fi, hsi⟩ := zdB HO.out i hil
     by_cases q : cu.getD j 0 < cu.getD i 0
     ·have hex : exch cu i j = (cu.set i (cu.getD j 0)).set j (cu.getD i 0) := rfl
      have HO2 : Aside0 (∀ nq, Kd.R (Kd.int .i64) 3 (((wr.drewN nq).setCell ⟨g, i, none⟩ (.int .i64 (cu.getD j 0))).setCell ⟨g, j, none⟩ (.int .i64 (cu.getD i 0))) w.heap.size (fun _ => True) (.slice (some ⟨g, 0, none⟩) l.length c9) (exch cu i j)) := ⟨fun nq => by
       have h3 := (zdB (Kd.R_drewN HO.out nq) i hil).2.2 (cu.getD j 0)
       exact (zdB h3 j (by rw [List.length_set]; exact hjl)).2.2 (cu.getD i 0)⟩
      have hgb : w.heap.size ≤ g := Kd.R_base HO.out g (by simp [Value.ownBlock])
      have HB2 : Aside0 (∀ nq, Below w.heap.size w (((wr.drewN nq).setCell ⟨g, i, none⟩ (.int .i64 (cu.getD j 0))).setCell ⟨g, j, none⟩ (.int .i64 (cu.getD i 0)))) := ⟨fun nq => zag (zag (below_step HB.out (zaa (Below.refl _ _) nq)) hgb) hgb⟩
      have HP2 : Aside0 ((exch cu i j).Perm l) := ⟨(zfu cu i j hil hjl).trans HP.out⟩
      have HU2 : Aside0 (Upto (exch cu i j) i) := ⟨zja HU.out hij hjl⟩
      have HL2 : Aside0 (zel (exch cu i j) i (j + 1)) := ⟨zhQ HLS.out hij hjl q⟩
      have d1 : decide (cu.getD j 0 < cu.getD i 0) = true := decide_eq_true q
      have hne : i ≠ j := by omega
      clear q hex hsi HP HU HLS HO HB HCL
      generalize cu.getD j 0 = yj at *
      generalize cu.getD i 0 = yi at *
      generalize exch cu i j = cu2 at *
      go_wp2
      go_quiet (fail)
      go_wp2
      have HO3 := Aside0.mk (HO2.out nq)
      have HB3 := Aside0.mk (HB2.out nq)
      go_roundg gj
      case measure => omega
      case rel => exact ⟨j + 1, cu2, by omega, by omega, by first | rfl | (simp; done) | (simp; unfold wrap64; omega), HP2, HU2, HL2, HO3, HB3⟩
     ·have d1 : decide (cu.getD j 0 < cu.getD i 0) = false := decide_eq_false q
      have HL2 : Aside0 (zel cu i (j + 1)) := ⟨zhE HLS.out q⟩
      have HOq : Aside0 (∀ nq, Kd.R (Kd.int .i64) 3 (wr.drewN nq) w.heap.size (fun _ => True) (.slice (some ⟨g, 0, none⟩) l.length c9) cu) := ⟨fun nq => Kd.R_drewN HO.out nq⟩
      have HBq : Aside0 (∀ nq, Below w.heap.size w (wr.drewN nq)) := ⟨fun nq => below_step HB.out (zaa (Below.refl _ _) nq)⟩
      clear q hsi HLS HO HB HCL
      generalize cu.getD j 0 = yj at *
      generalize cu.getD i 0 = yi at *
      go_wp2
      go_quiet (fail)
      go_wp2
      have HO3 := Aside0.mk (HOq.out nq)
      have HB3 := Aside0.mk (HBq.out nq)
      go_roundg gj
      case measure => omega
      case rel => exact ⟨j + 1, cu, by omega, by omega, by first | rfl | (simp; done) | (simp; unfold wrap64; omega), HP, HU, HL2, HO3, HB3⟩
set_option maxHeartbeats 4000000 in
set_option maxRecDepth 100000 in
theorem zf4 (A0 : Option Addr) (c0 : Nat) (s : List S49) (w : World) (hS : Kd.C k49 w A0 s.length s) (hc0 : s.length ≤ c0) (hs : zbw s) :
  Calls Tryz.prog 19 #[.slice A0 s.length c0] w fun e w' => ∃ v0_ : Value, e = .returned (v0_) ∧ Kd.S k49a 72 w' w.heap.size (fun _ => True) v0_ s ∧ Below w.heap.size w w' := by
 have HS := Aside0.mk hS
 have HSM := Aside0.mk hs
 have hs2 := hs.1
 have HB0 := Aside0.mk (Below.refl w.heap.size w)
 have HT0 : Aside0 (Kd.S k49a 72 w w.heap.size (fun _ => True) (.slice none 0 0) (s.take 0)) := ⟨by simpa using Kd.S_nil k49a _ _ _ _⟩
 clear hS hs
 go_enter Tryz.func19, Tryz.ntmps19
 go_wp2
 go_loopg [3, 4] s.length (fun gk v3 v4 wx => ∃ (m : Nat), m + gk = s.length ∧ v4 = .int .i64 m ∧ Aside0 (Kd.S k49a 72 wx w.heap.size (fun _ => True) v3 (s.take m)) ∧ Aside0 (Below w.heap.size w wx))
 case atStart => exact ⟨0, by omega, rfl, HT0, HB0⟩
 case round =>
  clear HT0 HB0
  obtain ⟨m, hm, rfl, HT, HB⟩ := hrel
  cases gk with
  | zero =>
   have hmi : ¬ (m : Int) < (s.length : Int) := by omega
   have e : s.take m = s := List.take_of_length_le (by omega)
   rw [e] at HT
   clear e
   go_wp2
   go_ret
   exact ⟨_, rfl, HT.out, HB.out⟩
  | succ gk =>
   have hlt : m < s.length := by omega
   have hmi : (m : Int) < (s.length : Int) := by omega
   have hm0 : (0 : Int) ≤ (m : Int) := by omega
   obtain ⟨aa, P1, p1, P2, p2, P3, p3, P4, p4, haa, z0, z1, z2, z3, z4, m1, C1, m2, C2, m3, C3, m4, C4⟩ := zaR HS.out (m : Int) hm0 hmi
   subst haa
   have hrd : rd_T49 s (m : Int) = s[m] := by unfold rd_T49; simp [List.getD, hlt]
   rw [hrd] at z0 z1 z2 z3 z4 m1 C1 m2 C2 m3 C3 m4 C4
   rw [Int.toNat_natCast] at z0 z1 z2 z3 z4
   replace z0 := (HB.out.cell (World.block_lt_of_cell? w _ z0)).trans z0
   replace z1 := (HB.out.cell (World.block_lt_of_cell? w _ z1)).trans z1
   replace z2 := (HB.out.cell (World.block_lt_of_cell? w _ z2)).trans z2
   replace z3 := (HB.out.cell (World.block_lt_of_cell? w _ z3)).trans z3
   replace z4 := (HB.out.cell (World.block_lt_of_cell? w _ z4)).trans z4
   have HN := Aside0.mk (zdT s[m] P1 p1 P2 p2 P3 p3 P4 p4 wr (Kd.C_below C1 HB.out) m1 (Kd.C_below C2 HB.out) m2 (Kd.C_below C3 HB.out) m3 (Kd.C_below C4 HB.out) m4 (HSM.out.2 _ (List.getElem_mem hlt)))
   have HLT := Aside0.mk (zay hlt)
   have hpl : (s.take m).length ≤ 2000000 := by rw [List.length_take]; omega
   clear C1 C2 C3 C4 hrd
   generalize s[m] = x at *
   generalize s.take m = pre at *
   go_wp2_with (first
    | (go_at_call 32; refine HN.out.mono ?_; rintro e w3 ⟨v1, v2, v3, v4, rfl, hM3, hb3⟩; obtain ⟨A5, c5, A6, c6, A7, c7, A8, c8, e5, e6, e7, e8⟩ := ziE hM3; subst e5 e6 e7 e8; have HM3 := Aside0.mk hM3; have HT3 := Aside0.mk (Kd.S_old HT.out hb3); have HB3 := Aside0.mk (below_step HB.out hb3); have HBW : Aside0 (w.heap.size ≤ wr.heap.size) := ⟨HB.out.size⟩; clear hM3 hb3)
    | ((with_reducible refine zam (b := .append) (xs := #[.tmp 11, .tmp 17]) rfl ?_); at_builtin; refine Kd.S_append k49a (w0 := w) w.heap.size rfl (.tmp 11) (.tmp 17) 23 72 (.agg #[(.string ⟨#[]⟩), (.slice none 0 0), (.slice none 0 0), (.slice none 0 0), (.slice none 0 0)]) 112 rfl Tryz.underlying23 zeL rfl (by decide) (by omega) u3 pre x [Value.string x.f0, Value.slice A5 x.f1.length c5, Value.slice A6 x.f2.length c6, Value.slice A7 x.f3.length c7, Value.slice A8 x.f4.length c8] (fun _ => True) (fun k_ => wr.heap.size ≤ k_) rfl rfl ?aP ?aQ (fun _ _ => trivial) ?aO HB3.out HB3.out.size (by omega) ?_; (case aP => exact k49a.M_lower HBW.out (k49a.M_mono (fun k hk => hk.2.1) (k49a.M_bound HM3.out))); (case aQ => exact fun k hk => ⟨trivial, fun he => by have := Kd.S_lt HT.out k he.symm; omega⟩); (case aO => exact Kd.S_mono HT3.out (fun k hk => ⟨trivial, fun h9 => by have := hk.2; omega⟩)); intro v16 w5 hv16 hb5 hg5 hat5; have HV16 := Aside0.mk hv16; have HB5 := Aside0.mk hb5; clear hv16 hb5 hg5 hat5))
   go_roundg gk
   case measure => omega
   case rel => exact ⟨m + 1, by omega, by first | rfl | (simp; done) | (simp; unfold wrap64; omega), ⟨by rw [HLT.out]; exact HV16.out⟩, HB5⟩
theorem zj9 (x : Int) (w : World) : Calls Tryz.prog 140 #[.int .i64 x] w fun e w' => e = .returned (.bool false) ∧ w = w' := by
 go_enter Tryz.func140, Tryz.ntmps140
 go_wp2
 go_ret
 exact ⟨by simp, rfl⟩
theorem zfS (x y : Int) (w : World) : Calls Tryz.prog 92 #[.int .i64 x, .int .i64 y] w fun e w' => e = .returned (.bool (decide (x < y))) ∧ w = w' := by
 go_enter Tryz.func92, Tryz.ntmps92
 go_wp2_with (go_at_call 140; refine (zj9 _ _).mono ?_; rintro e w' ⟨rfl, rfl⟩)
 go_ret
 exact ⟨rfl, rfl⟩
section
variable {P : Program} {ops : Array Oper} {Q : Exit → Act → World → Prop} {rest : List Oper} {o : Oper} {a : Act} {w : World}
end
end Go.Proofs.YthgfdnffnbclpaaGreatDoor.PAll
namespace Go.Proofs.YthgfdnffnbclpaaGreatDoor.PAll
open Go.RowKit Go.Proofs.YthgfdnffnbclpaaGreatDoorW.PrintWords Go.Proofs.YthgfdnffnbclpaaGreatDoorW.PrintLast Go.Proofs.YthgfdnffnbclpaaGreatDoorW.PrintMore
structure S109 where
 f0 : ByteArray
 f1 : Int
 f2 : Bool
 f3 : Int
 f4 : Int
 f5 : Bool
def z109 : S109 := ⟨(⟨#[]⟩ : ByteArray), (0 : Int), false, (0 : Int), (0 : Int), false⟩
def k109 : Kd S109 := Kd.iso (Kd.pair Kd.string (Kd.pair (Kd.int .u8) (Kd.pair Kd.bool (Kd.pair (Kd.int .i64) (Kd.pair (Kd.int .i64) Kd.bool))))) (fun x : S109 => (x.f0, x.f1, x.f2, x.f3, x.f4, x.f5))
theorem zio {w : World} {x : S109} {cs : List Value} (h : k109.K w x cs) : cs = [.string x.f0, .int .u8 x.f1, .bool x.f2, .int .i64 x.f3, .int .i64 x.f4, .bool x.f5] := by
 obtain ⟨_, _, rfl, rfl, ⟨_, _, rfl, rfl, ⟨_, _, rfl, rfl, ⟨_, _, rfl, rfl, ⟨_, _, rfl, rfl, rfl⟩⟩⟩⟩⟩ := h
 exact rfl
theorem zkC (w : World) (x : S109)  : k109.K w x [.string x.f0, .int .u8 x.f1, .bool x.f2, .int .i64 x.f3, .int .i64 x.f4, .bool x.f5] := ⟨[.string x.f0], [.int .u8 x.f1, .bool x.f2, .int .i64 x.f3, .int .i64 x.f4, .bool x.f5], rfl, rfl, ⟨[.int .u8 x.f1], [.bool x.f2, .int .i64 x.f3, .int .i64 x.f4, .bool x.f5], rfl, rfl, ⟨[.bool x.f2], [.int .i64 x.f3, .int .i64 x.f4, .bool x.f5], rfl, rfl, ⟨[.int .i64 x.f3], [.int .i64 x.f4, .bool x.f5], rfl, rfl, ⟨[.int .i64 x.f4], [.bool x.f5], rfl, rfl, rfl⟩⟩⟩⟩⟩
def za0 (xs : List S109) (i : Int) : S109 := xs.getD i.toNat z109
theorem zd3 {w : World} {A : Option Addr} {n : Nat} {xs : List S109} (h : Kd.C k109 w A n xs) (i : Int) (h0 : 0 ≤ i) (h1 : i < n) : ∃ ad , A = some ad ∧ w.cell? (ad.add (i.toNat * 6)) = some (.string (za0 xs i).f0) ∧ w.cell? ⟨(ad.add (i.toNat * 6)).block, (ad.add (i.toNat * 6)).off + 1, none⟩ = some (.int .u8 (za0 xs i).f1) ∧ w.cell? ⟨(ad.add (i.toNat * 6)).block, (ad.add (i.toNat * 6)).off + 2, none⟩ = some (.bool (za0 xs i).f2) ∧ w.cell? ⟨(ad.add (i.toNat * 6)).block, (ad.add (i.toNat * 6)).off + 3, none⟩ = some (.int .i64 (za0 xs i).f3) ∧ w.cell? ⟨(ad.add (i.toNat * 6)).block, (ad.add (i.toNat * 6)).off + 4, none⟩ = some (.int .i64 (za0 xs i).f4) ∧ w.cell? ⟨(ad.add (i.toNat * 6)).block, (ad.add (i.toNat * 6)).off + 5, none⟩ = some (.bool (za0 xs i).f5) := by
 obtain ⟨ad, c, e, _, hK, hc0⟩ := Kd.C_get h z109 i h0 h1
 have hc : ∀ j u, c[j]? = some u → w.cell? (ad.add (i.toNat * 6 + j)) = some u := hc0
 obtain rfl := zio hK
 exact ⟨ad, e, hc 0 _ rfl, by rw [← zaD _ _ 1 (by omega)]; exact hc 1 _ rfl, by rw [← zaD _ _ 2 (by omega)]; exact hc 2 _ rfl, by rw [← zaD _ _ 3 (by omega)]; exact hc 3 _ rfl, by rw [← zaD _ _ 4 (by omega)]; exact hc 4 _ rfl, by rw [← zaD _ _ 5 (by omega)]; exact hc 5 _ rfl⟩
def zdr (xs : List (List ByteArray)) (i : Int) : (List ByteArray) := xs.getD i.toNat ([] : List ByteArray)
theorem zj0 {w : World} {A : Option Addr} {n : Nat} {xs : List (List ByteArray)} (h : Kd.C (Kd.slice 9 Kd.string) w A n xs) (i : Int) (h0 : 0 ≤ i) (h1 : i < n) : ∃ ad A0 c0, A = some ad ∧ w.cell? (ad.add i.toNat) = some (.slice A0 (zdr xs i).length c0) ∧ (zdr xs i).length ≤ c0 ∧ Kd.string.C w A0 (zdr xs i).length (zdr xs i) := by
 obtain ⟨ad, c, e, _, hK, hc0⟩ := Kd.C_get h ([] : List ByteArray) i h0 h1
 have hc : ∀ j u, c[j]? = some u → w.cell? (ad.add (i.toNat * 1 + j)) = some u := hc0
 obtain ⟨A0, c0, rfl, l0, g0⟩ := hK
 exact ⟨ad, A0, c0, e, by have hq := hc 0 _ rfl; rwa [Nat.mul_one, Nat.add_zero] at hq, l0, g0⟩
structure S105 where
 f0 : (List ByteArray)
 f1 : ByteArray
 f2 : (List ByteArray)
def z105 : S105 := ⟨([] : List ByteArray), (⟨#[]⟩ : ByteArray), ([] : List ByteArray)⟩
def k105 : Kd S105 := Kd.iso (Kd.pair (Kd.slice 9 Kd.string) (Kd.pair Kd.string (Kd.slice 9 Kd.string))) (fun x : S105 => (x.f0, x.f1, x.f2))
theorem ziG {w : World} {x : S105} {cs : List Value} (h : k105.K w x cs) : ∃ A0 c0 A2 c2, cs = [.slice A0 x.f0.length c0, .string x.f1, .slice A2 x.f2.length c2] ∧ x.f0.length ≤ c0 ∧ Kd.string.C w A0 x.f0.length x.f0 ∧ x.f2.length ≤ c2 ∧ Kd.string.C w A2 x.f2.length x.f2 := by
 obtain ⟨_, _, rfl, ⟨A0, c0, rfl, l0, g0⟩, ⟨_, _, rfl, rfl, ⟨A2, c2, rfl, l2, g2⟩⟩⟩ := h
 exact ⟨A0, c0, A2, c2, rfl, l0, g0, l2, g2⟩
theorem zkX (w : World) (x : S105) {A0 : Option Addr} {c0 : Nat} (l0 : x.f0.length ≤ c0) (g0 : Kd.string.C w A0 x.f0.length x.f0) {A2 : Option Addr} {c2 : Nat} (l2 : x.f2.length ≤ c2) (g2 : Kd.string.C w A2 x.f2.length x.f2) : k105.K w x [.slice A0 x.f0.length c0, .string x.f1, .slice A2 x.f2.length c2] := ⟨[.slice A0 x.f0.length c0], [.string x.f1, .slice A2 x.f2.length c2], rfl, ⟨A0, c0, rfl, l0, g0⟩, ⟨[.string x.f1], [.slice A2 x.f2.length c2], rfl, rfl, ⟨A2, c2, rfl, l2, g2⟩⟩⟩
def zaW (xs : List S105) (i : Int) : S105 := xs.getD i.toNat z105
theorem zd1 {w : World} {A : Option Addr} {n : Nat} {xs : List S105} (h : Kd.C k105 w A n xs) (i : Int) (h0 : 0 ≤ i) (h1 : i < n) : ∃ ad A0 c0 A2 c2, A = some ad ∧ w.cell? (ad.add (i.toNat * 3)) = some (.slice A0 (zaW xs i).f0.length c0) ∧ w.cell? ⟨(ad.add (i.toNat * 3)).block, (ad.add (i.toNat * 3)).off + 1, none⟩ = some (.string (zaW xs i).f1) ∧ w.cell? ⟨(ad.add (i.toNat * 3)).block, (ad.add (i.toNat * 3)).off + 2, none⟩ = some (.slice A2 (zaW xs i).f2.length c2) ∧ (zaW xs i).f0.length ≤ c0 ∧ Kd.string.C w A0 (zaW xs i).f0.length (zaW xs i).f0 ∧ (zaW xs i).f2.length ≤ c2 ∧ Kd.string.C w A2 (zaW xs i).f2.length (zaW xs i).f2 := by
 obtain ⟨ad, c, e, _, hK, hc0⟩ := Kd.C_get h z105 i h0 h1
 have hc : ∀ j u, c[j]? = some u → w.cell? (ad.add (i.toNat * 3 + j)) = some u := hc0
 obtain ⟨A0, c0, A2, c2, rfl, l0, g0, l2, g2⟩ := ziG hK
 exact ⟨ad, A0, c0, A2, c2, e, hc 0 _ rfl, by rw [← zaD _ _ 1 (by omega)]; exact hc 1 _ rfl, by rw [← zaD _ _ 2 (by omega)]; exact hc 2 _ rfl, l0, g0, l2, g2⟩
end Go.Proofs.YthgfdnffnbclpaaGreatDoor.PAll
namespace Go.Proofs.YthgfdnffnbclpaaGreatDoor
open Go.ChangeShapes Go.WideShapes Go.ChangeAt Go.Deep Go.RowKit
open Go.Proofs.YthgfdnffnbclpaaGreatDoorW.PrintWords Go.Proofs.YthgfdnffnbclpaaGreatDoorW.PrintLast Go.Proofs.YthgfdnffnbclpaaGreatDoorW.PrintMore Go.Proofs.YthgfdnffnbclpaaGreatDoor.PAll
section
variable {H : Type}
theorem zjS (d : DataW H) : 1 ≤ Rows.uptoBulk d := by
 cases d with
 | lit l => cases l <;> simp [Rows.uptoBulk]
 | _ => simp [Rows.uptoBulk]
theorem zhe : ∀ l : List (DataW H), l.length ≤ Rows.uptoBulkAll l
 | [] => Nat.le_refl _
 | d :: r => by
  have h1 := zhe r
  have h2 := zjS d
  simp only [Rows.uptoBulkAll, List.length_cons]
  omega
theorem ze2 {d : DataW H} : ∀ {l : List (DataW H)}, d ∈ l → Rows.uptoBulk d ≤ Rows.uptoBulkAll l
 | [], h => by cases h
 | e :: r, h => by
  simp only [Rows.uptoBulkAll]
  rcases List.mem_cons.1 h with rfl | h
  ·omega
  ·have := ze2 h
   omega
end
section
variable {H : Type} (enc : TypeId × Value → H) (w : World)
def OpB {α : Type} (d : Kd α) (t : TypeId) (ok : α → Nat → Prop) : Prop := ∀ n cs y, DataW.trod enc Tryz.prog w 0 (fun _ => true) true n t cs = some y → ∃ x, d.K w x cs ∧ ok x (Rows.uptoBulk y.1)
variable {enc w}
theorem OpB.mono {α : Type} {d : Kd α} {t : TypeId} {ok ok' : α → Nat → Prop} (h : OpB enc w d t ok) (hm : ∀ x b, ok x b → ok' x b) : OpB enc w d t ok' := fun n cs y hy => by
 obtain ⟨x, h1, h2⟩ := h n cs y hy
 exact ⟨x, h1, hm _ _ h2⟩
theorem zg4 {α : Type} {d : Kd α} {t : TypeId} {ok : α → Prop} (h : OpK enc w d t ok) : OpB enc w d t (fun x _ => ok x) := fun n cs y hy => h n cs y hy
theorem zaV {α : Type} {d : Kd α} {t e : TypeId} {ok : α → Nat → Prop} (ht : Tryz.prog.underlying t = some (.slice e)) (hsz : Tryz.prog.cellsOf e = d.sz) (hd : OpB enc w d e ok) (hm : ∀ x b c, b ≤ c → ok x b → ok x c) :
  OpB enc w (Kd.slice e d) t (fun xs b => xs.length ≤ maxLen ∧ xs.length ≤ b ∧ ∀ x ∈ xs, ok x b) := fun n cs y h => by
 rcases open_slice ht h with ⟨hcs, _⟩ | ⟨a, len, cap, m, n', D, Pl, hcs, hb, hl, hmx, hmm, hy, hi⟩
 ·exact ⟨[], ⟨none, 0, hcs, Nat.le_refl _, ⟨rfl, by simp, fun h => by simp at h⟩⟩, by simp, by simp, fun x hx => by cases hx⟩
 ·have hmc : m = cap := by simpa using hmm
  have hbk : len ≤ Rows.uptoBulk y.1 ∧ ∀ i, i < len → Rows.uptoBulk (D i) ≤ Rows.uptoBulk y.1 := by
   rw [hy]
   simp only [Rows.uptoBulk]
   have h1 := zhe ((List.range len).map D)
   rw [List.length_map, List.length_range] at h1
   refine ⟨by omega, fun i hil => ?_⟩
   have h2 := ze2 (d := D i) (l := (List.range len).map D) (List.mem_map.2 ⟨i, List.mem_range.2 hil, rfl⟩)
   omega
  have key : ∀ i, i < len → ∃ (x : α) (c : List Value), d.K w x c ∧ ok x (Rows.uptoBulk y.1) ∧ ∀ j u, c[j]? = some u → w.cell? (a.add (i * d.sz + j)) = some u := fun i hil => by
   obtain ⟨cs', hc, ht'⟩ := hi i (by omega)
   rw [hsz] at hc
   obtain ⟨x, hK, ho⟩ := hd _ _ _ ht'
   obtain ⟨_, hcl, hat⟩ := World.cells?_some hc
   refine ⟨x, cs', hK, hm _ _ _ (hbk.2 i hil) ho, fun j u hj => ?_⟩
   have hjl : j < d.sz := by rw [← hcl]; exact (List.getElem?_eq_some_iff.1 hj).1
   rw [← Go.Deep.add_add, hat j hjl, hj]
  by_cases h0 : len = 0
  ·subst h0
   exact ⟨[], ⟨some a, cap, hcs, Nat.zero_le _, ⟨rfl, by simp, fun h => by simp at h⟩⟩, by simp, by simp, fun x hx => by cases hx⟩
  obtain ⟨x0, _⟩ := key 0 (by omega)
  let f : Nat → α := fun i => if h : i < len then Classical.choose (key i h) else x0
  have hf : ∀ i, i < len → ∃ c, d.K w (f i) c ∧ ok (f i) (Rows.uptoBulk y.1) ∧ ∀ j u, c[j]? = some u → w.cell? (a.add (i * d.sz + j)) = some u := by
   intro i h
   have := Classical.choose_spec (key i h)
   simp only [f, dif_pos h]
   exact this
  have hlen : ((List.range len).map f).length = len := by simp
  refine ⟨(List.range len).map f, ⟨some a, cap, by rw [hlen]; exact hcs, by rw [hlen]; exact hl, ⟨rfl, ?_, fun _ => ⟨a, rfl, ?_⟩⟩⟩, ?_, ?_, ?_⟩
  ·rw [hlen]; have : maxLen = 9223372036854775807 := by decide
   omega
  ·intro j x hj
   have hjl : j < len := by
    have := (List.getElem?_eq_some_iff.1 hj).1
    simpa using this
   have : x = f j := by
    rw [List.getElem?_map, List.getElem?_range hjl] at hj
    simpa using hj.symm
   subst this
   obtain ⟨c, h1, _, h3⟩ := hf j hjl
   exact ⟨c, d.K_len h1, h1, h3⟩
  ·rw [hlen]; omega
  ·rw [hlen]; exact hbk.1
  ·intro x hx
   obtain ⟨i, hi', rfl⟩ := List.mem_map.1 hx
   obtain ⟨c, _, h2, _⟩ := hf i (List.mem_range.1 hi')
   exact h2
theorem zbE {e : TypeId} {fs : Array Field} (he : Tryz.prog.underlying e = some (.struct fs)) (hone : oneCellFields Tryz.prog fs = true) {n : Nat} {cs : List Value} {y : DataW H × List MemPlace}
  (h : DataW.trod enc Tryz.prog w 0 (fun _ => true) true n e cs = some y) (hcl : cs.length = fs.size) : ∀ (j : Nat) (f : Field), fs[j]? = some f → ∃ (v : Value) (m : Nat) (z : DataW H × List MemPlace), cs[j]? = some v ∧ DataW.trod enc Tryz.prog w 0 (fun _ => true) true m f.type [v] = some z ∧ Rows.uptoBulk z.1 ≤ Rows.uptoBulk y.1 := by
 obtain ⟨ys, n', hn', hy, hlen, hyl, hf⟩ := DataW.trod_struct he h
 intro j f hj
 obtain ⟨ho, hk⟩ := hone_of hone j f hj
 have hjl : j < fs.size := (Array.getElem?_eq_some_iff.1 hj).1
 have hv : cs[j]? = some (cs[j]'(by omega)) := List.getElem?_eq_getElem (by omega)
 have h1 := hf j f hj
 rw [ho, hk] at h1
 have hone' : (cs.drop j).take 1 = [cs[j]'(by omega)] := by
  rw [List.drop_eq_getElem_cons (by omega)]
  rfl
 rw [hone'] at h1
 have hys : ys[j]? = some (ys[j]'(by omega)) := List.getElem?_eq_getElem (by omega)
 refine ⟨_, _, _, hv, h1.trans hys, ?_⟩
 rw [hy]
 simp only [Rows.uptoBulk]
 have := ze2 (d := (ys[j]'(by omega)).1) (l := ys.map (·.1)) (List.mem_map.2 ⟨_, List.getElem_mem _, rfl⟩)
 omega
end
section
variable {H : Type} {enc : TypeId × Value → H} {w : World}
theorem zgP : OpB enc w (Kd.slice 3 (Kd.int .i64)) 70 (fun l b => (l.length ≤ maxLen ∧ ∀ x ∈ l, (Lit.int .i64 x).wf = true) ∧ l.length ≤ b) := (zaV (t := 70) (e := 3) Tryz.underlying70 (by kernel_rfl) (zg4 (zkz (k := .i64) Tryz.underlying3)) (fun _ _ _ _ h => h)).mono (fun x b h => ⟨⟨h.1, h.2.2⟩, h.2.1⟩)
theorem zlF : OpB enc w k75 75 (fun r b => (r.f0.length ≤ maxLen ∧ ∀ x ∈ r.f0, (Lit.int .i64 x).wf = true) ∧ r.f0.length ≤ b) := fun n cs y h => by
 have hl : cs.length = 3 := (zcf Tryz.underlying75 h).trans (by kernel_rfl)
 have hf := zbE Tryz.underlying75 (by kernel_rfl) h (by rw [hl]; rfl)
 obtain ⟨v0, m0, z0, c0, t0, b0⟩ := hf 0 _ rfl
 obtain ⟨v1, m1, z1, c1, t1, b1⟩ := hf 1 _ rfl
 obtain ⟨v2, m2, z2, c2, t2, b2⟩ := hf 2 _ rfl
 obtain ⟨x0, ⟨A0, k0, e0, l0, g0⟩, o0, q0⟩ := zgP _ _ _ t0
 obtain ⟨x1, e1, _, g1⟩ := DataW.trod_int (t := 3) Tryz.underlying3 t1
 obtain ⟨x2, e2, _, g2⟩ := DataW.trod_int (t := 3) Tryz.underlying3 t2
 match cs, hl, c0, c1, c2 with
 | [a, b, c], _, c0, c1, c2 =>
  simp at c0 c1 c2 e0 e1 e2
  subst c0 c1 c2 e0 e1 e2
  exact ⟨⟨x0, x1, x2⟩, zkr w _ l0 g0, o0, by show x0.length ≤ _; omega⟩
def bigT (t : S49) (b : Nat) : Prop := t.f1.length ≤ b ∧ (t.f2.length ≤ b ∧ ∀ key ∈ t.f2, key.length ≤ b) ∧ (t.f3.length ≤ b ∧ ∀ r ∈ t.f3, r.f0.length ≤ b) ∧ t.f4.length ≤ b
theorem zlE : OpB enc w k49 72 (fun t b => okT t ∧ bigT t b) := fun n cs y h => by
 have hl : cs.length = 5 := (zcf Tryz.underlying72 h).trans (by kernel_rfl)
 have hf := zbE Tryz.underlying72 (by kernel_rfl) h (by rw [hl]; rfl)
 obtain ⟨v0, m0, z0, c0, t0, b0⟩ := hf 0 _ rfl
 obtain ⟨v1, m1, z1, c1, t1, b1⟩ := hf 1 _ rfl
 obtain ⟨v2, m2, z2, c2, t2, b2⟩ := hf 2 _ rfl
 obtain ⟨v3, m3, z3, c3, t3, b3⟩ := hf 3 _ rfl
 obtain ⟨v4, m4, z4, c4, t4, b4⟩ := hf 4 _ rfl
 obtain ⟨x0, e0, _, g0⟩ := DataW.trod_string (t := 9) Tryz.underlying9 t0
 obtain ⟨x1, ⟨A1, k1, e1, l1, g1⟩, o1, q1, p1⟩ := zaV (t := 67) (e := 83) Tryz.underlying67 (by kernel_rfl) (zg4 zlS) (fun _ _ _ _ h => h) _ _ _ t1
 obtain ⟨x2, ⟨A2, k2, e2, l2, g2⟩, o2, q2, p2⟩ := zaV (t := 68) (e := 70) Tryz.underlying68 (by kernel_rfl) zgP (fun _ _ _ h q => ⟨q.1, Nat.le_trans q.2 h⟩) _ _ _ t2
 obtain ⟨x3, ⟨A3, k3, e3, l3, g3⟩, o3, q3, p3⟩ := zaV (t := 69) (e := 75) Tryz.underlying69 (by kernel_rfl) zlF (fun _ _ _ h q => ⟨q.1, Nat.le_trans q.2 h⟩) _ _ _ t3
 obtain ⟨x4, ⟨A4, k4, e4, l4, g4⟩, o4, q4⟩ := zgP _ _ _ t4
 match cs, hl, c0, c1, c2, c3, c4 with
 | [a, b, c, d, e], _, c0, c1, c2, c3, c4 =>
  simp at c0 c1 c2 c3 c4 e0 e1 e2 e3 e4
  subst c0 c1 c2 c3 c4 e0 e1 e2 e3 e4
  refine ⟨⟨x0, x1, x2, x3, x4⟩, zjn w _ l1 g1 l2 g2 l3 g3 l4 g4, ⟨g0, ⟨o1, p1⟩, ⟨o2, fun k hk => (p2 k hk).1⟩, ⟨o3, fun r hr => (p3 r hr).1⟩, o4⟩, ?_, ⟨?_, fun k hk => ?_⟩, ⟨?_, fun r hr => ?_⟩, ?_⟩
  ·show x1.length ≤ _; omega
  ·show x2.length ≤ _; omega
  ·have := (p2 k hk).2; omega
  ·show x3.length ≤ _; omega
  ·have := (p3 r hr).2; omega
  ·show x4.length ≤ _; omega
theorem zfQ {t : S49} {b c : Nat} (h : b ≤ c) (q : bigT t b) : bigT t c := by
 obtain ⟨h1, ⟨h2, h3⟩, ⟨h4, h5⟩, h6⟩ := q
 exact ⟨by omega, ⟨by omega, fun k hk => by have := h3 k hk; omega⟩, ⟨by omega, fun k hk => by have := h5 k hk; omega⟩, by omega⟩
set_option maxRecDepth 100000 in
theorem zgg {α : Type} {d : Kd α} {t e : TypeId} {ok : α → Nat → Prop} (ht : Tryz.prog.underlying t = some (.slice e)) (hsz : Tryz.prog.cellsOf e = d.sz) (hd : OpB enc w d e ok) (hm : ∀ x b c, b ≤ c → ok x b → ok x c) {v : Value} {x : DataW H} {p : List MemPlace} {base : Nat}
  (hv : Value.okWide Tryz.prog w .any base t v) (h : DataW.Trod enc Tryz.prog w 0 (fun _ => true) true t v x p) : ∃ (A : Option Addr) (cap : Nat) (l : List α), v = .slice A l.length cap ∧ l.length ≤ cap ∧ d.C w A l.length l ∧ l.length ≤ maxLen ∧ l.length ≤ Rows.uptoBulk x ∧ ∀ z ∈ l, ok z (Rows.uptoBulk x) := by
 obtain ⟨A0, len0, cap0, rfl⟩ := okWide_slice ht hv
 obtain ⟨fuel, hf⟩ := h
 obtain ⟨l, ⟨A, c, hcs, hl, hC⟩, h1, h2, h3⟩ := zaV ht hsz hd hm _ _ _ hf
 have hcs' : (Value.slice A0 len0 cap0) = .slice A l.length c := by simpa [Value.cells] using hcs
 exact ⟨A, c, l, hcs', hl, hC, h1, h2, h3⟩
set_option maxRecDepth 100000 in
theorem zgb {v : Value} {x : DataW H} {p : List MemPlace} {base : Nat} (hv : Value.okWide Tryz.prog w .any base 23 v) (h : DataW.Trod enc Tryz.prog w 0 (fun _ => true) true 23 v x p) :
  ∃ (A : Option Addr) (cap : Nat) (l : List S49), v = .slice A l.length cap ∧ l.length ≤ cap ∧ k49.C w A l.length l ∧ (∀ x ∈ l, okT x) ∧ (Rows.uptoBulk x ≤ 1048576 → zbw l) := by
 obtain ⟨A, c, l, h1, h2, h3, _, h5, h6⟩ := zgg Tryz.underlying23 (by kernel_rfl) zlE (fun _ _ _ h q => ⟨q.1, zfQ h q.2⟩) hv h
 refine ⟨A, c, l, h1, h2, h3, fun z hz => (h6 z hz).1, fun hb => ⟨by omega, fun z hz => ?_⟩⟩
 obtain ⟨g1, ⟨g2, g3⟩, ⟨g4, g5⟩, g6⟩ := zfQ hb (h6 z hz).2
 exact ⟨by omega, ⟨by omega, fun k hk => by have := g3 k hk; omega⟩, ⟨by omega, fun k hk => by have := g5 k hk; omega⟩, by omega⟩
theorem zle : OpB enc w (Kd.slice 87 k64) 89 (fun l b => zjC l ∧ l.length ≤ b) := (zaV (t := 89) (e := 87) Tryz.underlying89 (by kernel_rfl) (zg4 zlC) (fun _ _ _ _ h => h)).mono (fun x b h => ⟨⟨h.1, h.2.2⟩, h.2.1⟩)
set_option maxRecDepth 100000 in
theorem zhD {v : Value} {x : DataW H} {p : List MemPlace} {base : Nat} (hv : Value.okWide Tryz.prog w .any base 25 v) (h : DataW.Trod enc Tryz.prog w 0 (fun _ => true) true 25 v x p) :
  ∃ (A : Option Addr) (cap : Nat) (l : List (List (List S64))), v = .slice A l.length cap ∧ l.length ≤ cap ∧ (Kd.slice 89 (Kd.slice 87 k64)).C w A l.length l ∧ (∀ rows ∈ l, rows.length ≤ maxLen ∧ ∀ row ∈ rows, zjC row) ∧ (Rows.uptoBulk x ≤ 1048576 → zaJ l) := by
 obtain ⟨A, c, l, h1, h2, h3, _, h5, h6⟩ := zgg Tryz.underlying25 (by kernel_rfl) (zaV (t := 41) (e := 89) Tryz.underlying41 (by kernel_rfl) zle (fun _ _ _ h q => ⟨q.1, Nat.le_trans q.2 h⟩)) (fun _ _ _ h q => ⟨q.1, by omega, fun z hz => ⟨(q.2.2 z hz).1, by have := (q.2.2 z hz).2; omega⟩⟩) hv h
 exact ⟨A, c, l, h1, h2, h3, fun z hz => ⟨(h6 z hz).1, fun row hr => ((h6 z hz).2.2 row hr).1⟩, fun hb => ⟨by omega, fun z hz => ⟨by have := (h6 z hz).2.1; omega, fun row hr => by have := ((h6 z hz).2.2 row hr).2; omega⟩⟩⟩
end
end Go.Proofs.YthgfdnffnbclpaaGreatDoor
namespace Go
variable {H : Type} {enc : TypeId × Value → H}
theorem zbl {a : Assume} {C : Checked} {os : Os} {f : FuncId} {fn : Func} {s : OpenSpec} {k : (H : Type) → List (DataW H) → Bool} (hk : s.cond = some k) {F : Stop.Interp} {conds : List PathCond} {apart fresh handsOn again : Bool} {X : World → Array Value → Prop}
  (hX : ∀ (w w' : World) (args : Array Value), w.heap = w'.heap → X w args → X w' args)
  (own : ownKnob C.prog.godebug = none) (started : os.Started) (noInit : C.prog.inits.idxOf? f = none) (hfn : C.prog.funcs[f]? = some fn)
  (witness : ∃ (w : World) (tape : Tape) (i : Input), w.os = os ∧ (w.forCall tape i).Shaped C.prog ∧ i.vars = [] ∧ Input.okWide C.prog (w.forCall tape i) .any w.heap.size f i ∧
   ((s.pre enc C.prog fn conds apart (w.forCall tape i).memory i.args ∧ X (w.forCall tape i).memory i.args) ∧ sizedMet enc C.prog fn s apart (w.forCall tape i).memory i.args) ∧ a.holds C.prog (lone (Frame.enter C.prog f i.args .normal) [] (w.forCall tape i)))
  (contract : ∀ (W : World) (base : Nat) (args : Array Value) (ds gs : List (DataW H)) (before : List MemPlace),
   (∀ (j : Nat) t v, fn.params[j]? = some t → args[j]? = some v → Value.okWide C.prog W .any base t v) →
   DataW.Whole enc C.prog fn.params.toList s.vars apart W args.toList ds gs before →
   conds.all (PathCond.test C.prog ⟨fn.params.toList, ds, s.bare.plain.varTypes C.prog, gs⟩) = true → k H (ds ++ gs) = true → X W args → W.ShapedOpen C.prog →
   a.holds C.prog (lone (Frame.enter C.prog f args .normal) [] W) →
   Calls C.prog f args W fun e W' => ∃ v, e = .returned v ∧ (s.at F).post enc C.prog fn apart fresh handsOn again W args v W') :
  ReturnsInHanded a C os f .any (fun w args => (s.pre enc C.prog fn conds apart w args ∧ X w args) ∧ sizedMet enc C.prog fn s apart w args) ((s.at F).post enc C.prog fn apart fresh handsOn again) := by
 refine returnsInHanded_of_calls own started noInit witness ?_
 intro w tape i _ hsh _ hok hpre hholds
 obtain ⟨_, _, _, fn', hfn', _, _, _, _, hval⟩ := hok
 have e : fn' = fn := Option.some.inj (hfn'.symm.trans hfn)
 subst e
 obtain ⟨⟨hp, hx⟩, _⟩ := hpre
 obtain ⟨ds, gs, before, hw, hc, hkk⟩ := (OpenSpec.pre_some hk conds apart _ _).1 hp
 have hw' := DataW.Whole.of_heap (w' := w.forCall tape i) (by rfl) hw
 refine (contract (w.forCall tape i) w.heap.size i.args ds gs before hval hw' hc hkk (hX _ _ _ (by rfl) hx) hsh hholds).mono fun e W' ⟨v, he, hp⟩ => ?_
 subst he
 exact ChangeSpec.post_blind hp
theorem OpenSpec.witness_all {C : Checked} {os : Os} {f : FuncId} {fn : Func} {s : OpenSpec} {k : (H : Type) → List (DataW H) → Bool} (hk : s.cond = some k) {conds : List PathCond} {apart : Bool} {X : World → Array Value → Prop} (modest : Bool) (w0 : World) (args : Array Value) (fuel : Nat) (hos : w0.os = os)
  (hsh : (w0.forCall (fun _ _ => 0) ⟨#[], args, []⟩).Shaped C.prog)
  (hok : Input.okWideB C.prog (w0.forCall (fun _ _ => 0) ⟨#[], args, []⟩) f ⟨#[], args, []⟩ = true)
  {x : List (DataW H) × List (DataW H) × List MemPlace} (hx : DataW.whole enc C.prog (w0.forCall (fun _ _ => 0) ⟨#[], args, []⟩).memory fn.params.toList s.vars apart args.toList fuel = some x)
  (hconds : conds.all (PathCond.test C.prog ⟨fn.params.toList, x.1, s.bare.plain.varTypes C.prog, x.2.1⟩) = true) (hkk : k H (x.1 ++ x.2.1) = true)
  (hsz : s.bare.sizedB enc C.prog fn apart (w0.forCall (fun _ _ => 0) ⟨#[], args, []⟩).memory args fuel = true)
  (hX : X (w0.forCall (fun _ _ => 0) ⟨#[], args, []⟩).memory args) :
  ∃ (w : World) (tape : Tape) (i : Input), w.os = os ∧ (w.forCall tape i).Shaped C.prog ∧ i.vars = [] ∧ Input.okWide C.prog (w.forCall tape i) .any w.heap.size f i ∧
   ((s.pre enc C.prog fn conds apart (w.forCall tape i).memory i.args ∧ X (w.forCall tape i).memory i.args) ∧ sizedMet enc C.prog fn s apart (w.forCall tape i).memory i.args) ∧ ({ modest := modest } : Assume).holds C.prog (lone (Frame.enter C.prog f i.args .normal) [] (w.forCall tape i)) :=
 ⟨w0, fun _ _ => 0, ⟨#[], args, []⟩, hos, hsh, (Input.okWide_of_okWideB (base := 0) hok).1, (Input.okWide_of_okWideB hok).2,
  ⟨⟨(OpenSpec.pre_some hk conds apart _ _).2 ⟨x.1, x.2.1, x.2.2, DataW.Whole_of_whole hx, hconds, hkk⟩, hX⟩, sizedMet_of_sizedB hsz⟩, by
  simp only [Assume.holds]
  exact ⟨by simp, by simp, fun _ => Modest.zero, by simp, by simp⟩⟩
end Go
namespace Go.Proofs.YthgfdnffnbclpaaGreatDoor.PAll
open Go.RowKit Go.Proofs.YthgfdnffnbclpaaGreatDoorW.PrintWords Go.Proofs.YthgfdnffnbclpaaGreatDoorW.PrintLast Go.Proofs.YthgfdnffnbclpaaGreatDoorW.PrintMore
end Go.Proofs.YthgfdnffnbclpaaGreatDoor.PAll
namespace Go.Proofs.YthgfdnffnbclpaaGreatDoor.PAll
open Go.RowKit Go.Proofs.YthgfdnffnbclpaaGreatDoorW.PrintWords Go.Proofs.YthgfdnffnbclpaaGreatDoorW.PrintLast Go.Proofs.YthgfdnffnbclpaaGreatDoorW.PrintMore Go.Proofs.YthgfdnffnbclpaaGreatDoor
theorem zlb {t : S49} (h : okT t) : wfT t := by
 obtain ⟨h0, h1, h2, h3, h4⟩ := h
 have e : maxLen = 9223372036854775807 := by decide
 rw [e] at h0 h4
 refine ⟨h0, fun c hc => by have := h1.2 c hc; rw [e] at this; exact this, fun k hk => by have := (h2.2 k hk).1; rw [e] at this; exact this, fun r hr => ?_, h4.1⟩
 obtain ⟨g1, g2⟩ := h3.2 r hr
 rw [e] at g1
 exact ⟨g1, List.all_eq_true.2 g2⟩
theorem zif {d : Data} (h : ∀ rows ∈ d, rows.length ≤ maxLen ∧ ∀ row ∈ rows, zjC row) : zcr d := fun rows hr row hw x hx => ((h rows hr).2 row hw).2 x hx
end Go.Proofs.YthgfdnffnbclpaaGreatDoor.PAll
namespace Go.Proofs.YthgfdnffnbclpaaGreatDoor
open Go.ChangeShapes Go.WideShapes Go.Deep Go.RowKit
open Go.Proofs.YthgfdnffnbclpaaGreatDoorW.PrintWords Go.Proofs.YthgfdnffnbclpaaGreatDoorW.PrintLast Go.Proofs.YthgfdnffnbclpaaGreatDoorW.PrintMore Go.Proofs.YthgfdnffnbclpaaGreatDoor.PAll
end Go.Proofs.YthgfdnffnbclpaaGreatDoor
namespace Go.Proofs.YthgfdnffnbclpaaGreatDoor.PAll
open Go.RowKit Go.Proofs.YthgfdnffnbclpaaGreatDoorW.PrintWords Go.Proofs.YthgfdnffnbclpaaGreatDoorW.PrintLast Go.Proofs.YthgfdnffnbclpaaGreatDoorW.PrintMore
def idxP {α : Type} (p : α → Bool) : Nat → List α → Int
 | _, [] => -1
 | i, x :: r => if p x = true then (i : Int) else idxP p (i + 1) r
theorem zcO {α : Type} (p : α → Bool) : ∀ (l : List α) (i : Nat), (l.any p = true → 0 ≤ idxP p i l) ∧ (l.any p = false → ¬ 0 ≤ idxP p i l)
 | [], i => ⟨fun h => by simp at h, fun _ => by simp [idxP]⟩
 | x :: r, i => by
  rw [idxP, List.any_cons]
  cases hx : p x with
  | true => exact ⟨fun _ => by simp, fun h => by simp at h⟩
  | false => rw [Bool.false_or, if_neg (by decide)]; exact zcO p r (i + 1)
set_option maxRecDepth 100000 in
theorem ziu (A : Option Addr) (c : Nat) (l : List S109) (p : S109 → Bool) (w : World) (hC : Kd.C k109 w A l.length l) (hc : l.length ≤ c)
  (hF : ∀ x ∈ l, ∀ (W : World), Below w.heap.size w W → Calls Tryz.prog 54 #[.agg #[.string x.f0, .int .u8 x.f1, .bool x.f2, .int .i64 x.f3, .int .i64 x.f4, .bool x.f5]] W fun e w' => e = .returned (.bool (p x)) ∧ Below W.heap.size W w') :
  Calls Tryz.prog 110 #[.slice A l.length c, .func (.func 54) #[] #[]] w fun e w' => e = .returned (.int .i64 (idxP p 0 l)) ∧ Below w.heap.size w w' := by
 have HC := Aside0.mk hC
 have HF := Aside0.mk hF
 have HB0 := Aside0.mk (Below.refl w.heap.size w)
 clear hC hF
 go_enter Tryz.func110, Tryz.ntmps110
 go_wp2
 go_loopg [8] l.length (fun gk v8 wx => ∃ (i : Nat), i + gk = l.length ∧ v8 = .int .i64 i ∧ Aside0 (Below w.heap.size w wx) ∧ Aside0 (idxP p 0 l = idxP p i (l.drop i)))
 case atStart => exact ⟨0, by omega, rfl, HB0, ⟨by simp⟩⟩
 case round =>
  clear HB0
  obtain ⟨i, hi, rfl, HW, HP⟩ := hrel
  cases gk with
  | zero =>
   have e : l.drop i = [] := List.drop_eq_nil_of_le (by omega)
   have hp := HP.out
   rw [e] at hp
   have hii : ¬ (i : Int) < (l.length : Int) := by omega
   go_wp2
   go_ret
   exact ⟨by first | rfl | (rw [hp]; rfl), HW.out⟩
  | succ gk =>
   have hlt : i < l.length := by omega
   have hii : (i : Int) < (l.length : Int) := by omega
   have hi0 : (0 : Int) ≤ (i : Int) := by omega
   have hdr : l.drop i = l[i] :: l.drop (i + 1) := List.drop_eq_getElem_cons hlt
   have hrd : za0 l (i : Int) = l[i] := by unfold za0; simp [List.getD, hlt]
   obtain ⟨ad2, hA, hx0, hx1, hx2, hx3, hx4, hx5⟩ := zd3 HC.out (i : Int) hi0 hii
   cases hA
   rw [hrd] at hx0 hx1 hx2 hx3 hx4 hx5
   rw [Int.toNat_natCast] at hx0 hx1 hx2 hx3 hx4 hx5
   have hy0 := (HW.out.cell (World.block_lt_of_cell? w _ hx0)).trans hx0
   have hy1 := (HW.out.cell (World.block_lt_of_cell? w _ hx1)).trans hx1
   have hy2 := (HW.out.cell (World.block_lt_of_cell? w _ hx2)).trans hx2
   have hy3 := (HW.out.cell (World.block_lt_of_cell? w _ hx3)).trans hx3
   have hy4 := (HW.out.cell (World.block_lt_of_cell? w _ hx4)).trans hx4
   have hy5 := (HW.out.cell (World.block_lt_of_cell? w _ hx5)).trans hx5
   have HM := List.getElem_mem hlt
   have hp := HP.out
   rw [hdr, idxP] at hp
   generalize l[i] = x at *
   have HN := Aside0.mk (HF.out x HM wr HW.out)
   clear hx0 hx1 hx2 hx3 hx4 hx5  HM
   cases hh : p x with
   | true =>
    rw [hh] at HN
    rw [if_pos hh] at hp
    clear hh
    go_wp2_with (go_at_call 54; refine HN.out.mono ?_; rintro e w1 ⟨rfl, hb1⟩)
    go_ret
    exact ⟨by first | rfl | (rw [hp]; rfl), below_step HW.out hb1⟩
   | false =>
    rw [hh] at HN
    rw [if_neg (by rw [hh]; decide)] at hp
    clear hh
    go_wp2_with (go_at_call 54; refine HN.out.mono ?_; rintro e w1 ⟨rfl, hb1⟩)
    go_roundg gk
    case measure => omega
    case rel => exact ⟨i + 1, by omega, by first | rfl | (simp; done) | (have := HC.out.2.1; simp; unfold wrap64; omega), ⟨below_step HW.out hb1⟩, ⟨hp⟩⟩
theorem zi0 (A : Option Addr) (c : Nat) (l : List S109) (p : S109 → Bool) (w : World) (hC : Kd.C k109 w A l.length l) (hc : l.length ≤ c)
  (hF : ∀ x ∈ l, ∀ (W : World), Below w.heap.size w W → Calls Tryz.prog 54 #[.agg #[.string x.f0, .int .u8 x.f1, .bool x.f2, .int .i64 x.f3, .int .i64 x.f4, .bool x.f5]] W fun e w' => e = .returned (.bool (p x)) ∧ Below W.heap.size W w') :
  Calls Tryz.prog 53 #[.slice A l.length c, .func (.func 54) #[] #[]] w fun e w' => e = .returned (.bool (l.any p)) ∧ Below w.heap.size w w' := by
 have HI := Aside0.mk (ziu A c l p w hC hc hF)
 have HA := Aside0.mk (zcO p l 0)
 clear hC hF
 go_enter Tryz.func53, Tryz.ntmps53
 cases hq : l.any p with
 | true =>
  have d1 : decide (0 ≤ idxP p 0 l) = true := decide_eq_true (HA.out.1 hq)
  clear hq
  go_wp2_with (go_at_call 110; refine HI.out.mono ?_; rintro e w1 ⟨rfl, hb1⟩)
  go_ret
  exact ⟨rfl, hb1⟩
 | false =>
  have d1 : decide (0 ≤ idxP p 0 l) = false := decide_eq_false (HA.out.2 hq)
  clear hq
  go_wp2_with (go_at_call 110; refine HI.out.mono ?_; rintro e w1 ⟨rfl, hb1⟩)
  go_ret
  exact ⟨rfl, hb1⟩
set_option maxRecDepth 100000 in
theorem zje (A : Option Addr) (c : Nat) (l : List ByteArray) (p : ByteArray → Bool) (w : World) (hC : Kd.C Kd.string w A l.length l) (hc : l.length ≤ c)
  (hF : ∀ x ∈ l, ∀ (W : World), Below w.heap.size w W → Calls Tryz.prog 113 #[.string x] W fun e w' => e = .returned (.bool (p x)) ∧ Below W.heap.size W w') :
  Calls Tryz.prog 151 #[.slice A l.length c, .func (.func 113) #[] #[]] w fun e w' => e = .returned (.int .i64 (idxP p 0 l)) ∧ Below w.heap.size w w' := by
 have HC := Aside0.mk hC
 have HF := Aside0.mk hF
 have HB0 := Aside0.mk (Below.refl w.heap.size w)
 clear hC hF
 go_enter Tryz.func151, Tryz.ntmps151
 go_wp2
 go_loopg [8] l.length (fun gk v8 wx => ∃ (i : Nat), i + gk = l.length ∧ v8 = .int .i64 i ∧ Aside0 (Below w.heap.size w wx) ∧ Aside0 (idxP p 0 l = idxP p i (l.drop i)))
 case atStart => exact ⟨0, by omega, rfl, HB0, ⟨by simp⟩⟩
 case round =>
  clear HB0
  obtain ⟨i, hi, rfl, HW, HP⟩ := hrel
  cases gk with
  | zero =>
   have e : l.drop i = [] := List.drop_eq_nil_of_le (by omega)
   have hp := HP.out
   rw [e] at hp
   have hii : ¬ (i : Int) < (l.length : Int) := by omega
   go_wp2
   go_ret
   exact ⟨by first | rfl | (rw [hp]; rfl), HW.out⟩
  | succ gk =>
   have hlt : i < l.length := by omega
   have hii : (i : Int) < (l.length : Int) := by omega
   have hi0 : (0 : Int) ≤ (i : Int) := by omega
   have hdr : l.drop i = l[i] :: l.drop (i + 1) := List.drop_eq_getElem_cons hlt
   have hrd : rdOf ByteArray.empty l (i : Int) = l[i] := by unfold rdOf; simp [List.getD, hlt]
   obtain ⟨ad2, hA, hx0⟩ := Kd.at_string HC.out (i : Int) hi0 hii
   cases hA
   rw [hrd] at hx0
   rw [Int.toNat_natCast] at hx0
   have hy0 := (HW.out.cell (World.block_lt_of_cell? w _ hx0)).trans hx0
   have HM := List.getElem_mem hlt
   have hp := HP.out
   rw [hdr, idxP] at hp
   generalize l[i] = x at *
   have HN := Aside0.mk (HF.out x HM wr HW.out)
   clear hx0  HM
   cases hh : p x with
   | true =>
    rw [hh] at HN
    rw [if_pos hh] at hp
    clear hh
    go_wp2_with (go_at_call 113; refine HN.out.mono ?_; rintro e w1 ⟨rfl, hb1⟩)
    go_ret
    exact ⟨by first | rfl | (rw [hp]; rfl), below_step HW.out hb1⟩
   | false =>
    rw [hh] at HN
    rw [if_neg (by rw [hh]; decide)] at hp
    clear hh
    go_wp2_with (go_at_call 113; refine HN.out.mono ?_; rintro e w1 ⟨rfl, hb1⟩)
    go_roundg gk
    case measure => omega
    case rel => exact ⟨i + 1, by omega, by first | rfl | (simp; done) | (have := HC.out.2.1; simp; unfold wrap64; omega), ⟨below_step HW.out hb1⟩, ⟨hp⟩⟩
theorem ziU (A : Option Addr) (c : Nat) (l : List ByteArray) (p : ByteArray → Bool) (w : World) (hC : Kd.C Kd.string w A l.length l) (hc : l.length ≤ c)
  (hF : ∀ x ∈ l, ∀ (W : World), Below w.heap.size w W → Calls Tryz.prog 113 #[.string x] W fun e w' => e = .returned (.bool (p x)) ∧ Below W.heap.size W w') :
  Calls Tryz.prog 112 #[.slice A l.length c, .func (.func 113) #[] #[]] w fun e w' => e = .returned (.bool (l.any p)) ∧ Below w.heap.size w w' := by
 have HI := Aside0.mk (zje A c l p w hC hc hF)
 have HA := Aside0.mk (zcO p l 0)
 clear hC hF
 go_enter Tryz.func112, Tryz.ntmps112
 cases hq : l.any p with
 | true =>
  have d1 : decide (0 ≤ idxP p 0 l) = true := decide_eq_true (HA.out.1 hq)
  clear hq
  go_wp2_with (go_at_call 151; refine HI.out.mono ?_; rintro e w1 ⟨rfl, hb1⟩)
  go_ret
  exact ⟨rfl, hb1⟩
 | false =>
  have d1 : decide (0 ≤ idxP p 0 l) = false := decide_eq_false (HA.out.2 hq)
  clear hq
  go_wp2_with (go_at_call 151; refine HI.out.mono ?_; rintro e w1 ⟨rfl, hb1⟩)
  go_ret
  exact ⟨rfl, hb1⟩
set_option maxRecDepth 100000 in
theorem zi7 (A : Option Addr) (c : Nat) (l : List (List ByteArray)) (p : (List ByteArray) → Bool) (w : World) (hC : Kd.C (Kd.slice 9 Kd.string) w A l.length l) (hc : l.length ≤ c)
  (hF : ∀ x ∈ l, ∀ (A : Option Addr) (c : Nat) (W : World), Below w.heap.size w W → Kd.C Kd.string W A x.length x → x.length ≤ c → Calls Tryz.prog 57 #[.slice A x.length c] W fun e w' => e = .returned (.bool (p x)) ∧ Below W.heap.size W w') :
  Calls Tryz.prog 111 #[.slice A l.length c, .func (.func 57) #[] #[]] w fun e w' => e = .returned (.int .i64 (idxP p 0 l)) ∧ Below w.heap.size w w' := by
 have HC := Aside0.mk hC
 have HF := Aside0.mk hF
 have HB0 := Aside0.mk (Below.refl w.heap.size w)
 clear hC hF
 go_enter Tryz.func111, Tryz.ntmps111
 go_wp2
 go_loopg [8] l.length (fun gk v8 wx => ∃ (i : Nat), i + gk = l.length ∧ v8 = .int .i64 i ∧ Aside0 (Below w.heap.size w wx) ∧ Aside0 (idxP p 0 l = idxP p i (l.drop i)))
 case atStart => exact ⟨0, by omega, rfl, HB0, ⟨by simp⟩⟩
 case round =>
  clear HB0
  obtain ⟨i, hi, rfl, HW, HP⟩ := hrel
  cases gk with
  | zero =>
   have e : l.drop i = [] := List.drop_eq_nil_of_le (by omega)
   have hp := HP.out
   rw [e] at hp
   have hii : ¬ (i : Int) < (l.length : Int) := by omega
   go_wp2
   go_ret
   exact ⟨by first | rfl | (rw [hp]; rfl), HW.out⟩
  | succ gk =>
   have hlt : i < l.length := by omega
   have hii : (i : Int) < (l.length : Int) := by omega
   have hi0 : (0 : Int) ≤ (i : Int) := by omega
   have hdr : l.drop i = l[i] :: l.drop (i + 1) := List.drop_eq_getElem_cons hlt
   have hrd : zdr l (i : Int) = l[i] := by unfold zdr; simp [List.getD, hlt]
   obtain ⟨ad2, A0, c0, hA, hx0, hl0, hC0⟩ := zj0 HC.out (i : Int) hi0 hii
   cases hA
   rw [hrd] at hx0 hl0 hC0
   rw [Int.toNat_natCast] at hx0
   have hy0 := (HW.out.cell (World.block_lt_of_cell? w _ hx0)).trans hx0
   have HM := List.getElem_mem hlt
   have hp := HP.out
   rw [hdr, idxP] at hp
   generalize l[i] = x at *
   have HN := Aside0.mk (HF.out x HM A0 c0 wr HW.out (Kd.C_below hC0 HW.out) hl0)
   clear hx0 hC0 HM
   cases hh : p x with
   | true =>
    rw [hh] at HN
    rw [if_pos hh] at hp
    clear hh
    go_wp2_with (go_at_call 57; refine HN.out.mono ?_; rintro e w1 ⟨rfl, hb1⟩)
    go_ret
    exact ⟨by first | rfl | (rw [hp]; rfl), below_step HW.out hb1⟩
   | false =>
    rw [hh] at HN
    rw [if_neg (by rw [hh]; decide)] at hp
    clear hh
    go_wp2_with (go_at_call 57; refine HN.out.mono ?_; rintro e w1 ⟨rfl, hb1⟩)
    go_roundg gk
    case measure => omega
    case rel => exact ⟨i + 1, by omega, by first | rfl | (simp; done) | (have := HC.out.2.1; simp; unfold wrap64; omega), ⟨below_step HW.out hb1⟩, ⟨hp⟩⟩
theorem ziZ (A : Option Addr) (c : Nat) (l : List (List ByteArray)) (p : (List ByteArray) → Bool) (w : World) (hC : Kd.C (Kd.slice 9 Kd.string) w A l.length l) (hc : l.length ≤ c)
  (hF : ∀ x ∈ l, ∀ (A : Option Addr) (c : Nat) (W : World), Below w.heap.size w W → Kd.C Kd.string W A x.length x → x.length ≤ c → Calls Tryz.prog 57 #[.slice A x.length c] W fun e w' => e = .returned (.bool (p x)) ∧ Below W.heap.size W w') :
  Calls Tryz.prog 56 #[.slice A l.length c, .func (.func 57) #[] #[]] w fun e w' => e = .returned (.bool (l.any p)) ∧ Below w.heap.size w w' := by
 have HI := Aside0.mk (zi7 A c l p w hC hc hF)
 have HA := Aside0.mk (zcO p l 0)
 clear hC hF
 go_enter Tryz.func56, Tryz.ntmps56
 cases hq : l.any p with
 | true =>
  have d1 : decide (0 ≤ idxP p 0 l) = true := decide_eq_true (HA.out.1 hq)
  clear hq
  go_wp2_with (go_at_call 111; refine HI.out.mono ?_; rintro e w1 ⟨rfl, hb1⟩)
  go_ret
  exact ⟨rfl, hb1⟩
 | false =>
  have d1 : decide (0 ≤ idxP p 0 l) = false := decide_eq_false (HA.out.2 hq)
  clear hq
  go_wp2_with (go_at_call 111; refine HI.out.mono ?_; rintro e w1 ⟨rfl, hb1⟩)
  go_ret
  exact ⟨rfl, hb1⟩
set_option maxRecDepth 100000 in
theorem zjh (A : Option Addr) (c : Nat) (l : List S105) (p : S105 → Bool) (w : World) (hC : Kd.C k105 w A l.length l) (hc : l.length ≤ c)
  (hF : ∀ x ∈ l, ∀ (A : Option Addr) (c : Nat) (A2 : Option Addr) (c2 : Nat) (W : World), Below w.heap.size w W → Kd.C Kd.string W A x.f0.length x.f0 → x.f0.length ≤ c → Kd.C Kd.string W A2 x.f2.length x.f2 → x.f2.length ≤ c2 → Calls Tryz.prog 60 #[.agg #[.slice A x.f0.length c, .string x.f1, .slice A2 x.f2.length c2]] W fun e w' => e = .returned (.bool (p x)) ∧ Below W.heap.size W w') :
  Calls Tryz.prog 114 #[.slice A l.length c, .func (.func 60) #[] #[]] w fun e w' => e = .returned (.int .i64 (idxP p 0 l)) ∧ Below w.heap.size w w' := by
 have HC := Aside0.mk hC
 have HF := Aside0.mk hF
 have HB0 := Aside0.mk (Below.refl w.heap.size w)
 clear hC hF
 go_enter Tryz.func114, Tryz.ntmps114
 go_wp2
 go_loopg [8] l.length (fun gk v8 wx => ∃ (i : Nat), i + gk = l.length ∧ v8 = .int .i64 i ∧ Aside0 (Below w.heap.size w wx) ∧ Aside0 (idxP p 0 l = idxP p i (l.drop i)))
 case atStart => exact ⟨0, by omega, rfl, HB0, ⟨by simp⟩⟩
 case round =>
  clear HB0
  obtain ⟨i, hi, rfl, HW, HP⟩ := hrel
  cases gk with
  | zero =>
   have e : l.drop i = [] := List.drop_eq_nil_of_le (by omega)
   have hp := HP.out
   rw [e] at hp
   have hii : ¬ (i : Int) < (l.length : Int) := by omega
   go_wp2
   go_ret
   exact ⟨by first | rfl | (rw [hp]; rfl), HW.out⟩
  | succ gk =>
   have hlt : i < l.length := by omega
   have hii : (i : Int) < (l.length : Int) := by omega
   have hi0 : (0 : Int) ≤ (i : Int) := by omega
   have hdr : l.drop i = l[i] :: l.drop (i + 1) := List.drop_eq_getElem_cons hlt
   have hrd : zaW l (i : Int) = l[i] := by unfold zaW; simp [List.getD, hlt]
   obtain ⟨ad2, A0, c0, A2, c2, hA, hx0, hx1, hx2, hl0, hC0, hl2, hC2⟩ := zd1 HC.out (i : Int) hi0 hii
   cases hA
   rw [hrd] at hx0 hx1 hx2 hl0 hC0 hl2 hC2
   rw [Int.toNat_natCast] at hx0 hx1 hx2
   have hy0 := (HW.out.cell (World.block_lt_of_cell? w _ hx0)).trans hx0
   have hy1 := (HW.out.cell (World.block_lt_of_cell? w _ hx1)).trans hx1
   have hy2 := (HW.out.cell (World.block_lt_of_cell? w _ hx2)).trans hx2
   have HM := List.getElem_mem hlt
   have hp := HP.out
   rw [hdr, idxP] at hp
   generalize l[i] = x at *
   have HN := Aside0.mk (HF.out x HM A0 c0 A2 c2 wr HW.out (Kd.C_below hC0 HW.out) hl0 (Kd.C_below hC2 HW.out) hl2)
   clear hx0 hx1 hx2 hC0 hC2 HM
   cases hh : p x with
   | true =>
    rw [hh] at HN
    rw [if_pos hh] at hp
    clear hh
    go_wp2_with (go_at_call 60; refine HN.out.mono ?_; rintro e w1 ⟨rfl, hb1⟩)
    go_ret
    exact ⟨by first | rfl | (rw [hp]; rfl), below_step HW.out hb1⟩
   | false =>
    rw [hh] at HN
    rw [if_neg (by rw [hh]; decide)] at hp
    clear hh
    go_wp2_with (go_at_call 60; refine HN.out.mono ?_; rintro e w1 ⟨rfl, hb1⟩)
    go_roundg gk
    case measure => omega
    case rel => exact ⟨i + 1, by omega, by first | rfl | (simp; done) | (have := HC.out.2.1; simp; unfold wrap64; omega), ⟨below_step HW.out hb1⟩, ⟨hp⟩⟩
theorem zi9 (A : Option Addr) (c : Nat) (l : List S105) (p : S105 → Bool) (w : World) (hC : Kd.C k105 w A l.length l) (hc : l.length ≤ c)
  (hF : ∀ x ∈ l, ∀ (A : Option Addr) (c : Nat) (A2 : Option Addr) (c2 : Nat) (W : World), Below w.heap.size w W → Kd.C Kd.string W A x.f0.length x.f0 → x.f0.length ≤ c → Kd.C Kd.string W A2 x.f2.length x.f2 → x.f2.length ≤ c2 → Calls Tryz.prog 60 #[.agg #[.slice A x.f0.length c, .string x.f1, .slice A2 x.f2.length c2]] W fun e w' => e = .returned (.bool (p x)) ∧ Below W.heap.size W w') :
  Calls Tryz.prog 59 #[.slice A l.length c, .func (.func 60) #[] #[]] w fun e w' => e = .returned (.bool (l.any p)) ∧ Below w.heap.size w w' := by
 have HI := Aside0.mk (zjh A c l p w hC hc hF)
 have HA := Aside0.mk (zcO p l 0)
 clear hC hF
 go_enter Tryz.func59, Tryz.ntmps59
 cases hq : l.any p with
 | true =>
  have d1 : decide (0 ≤ idxP p 0 l) = true := decide_eq_true (HA.out.1 hq)
  clear hq
  go_wp2_with (go_at_call 114; refine HI.out.mono ?_; rintro e w1 ⟨rfl, hb1⟩)
  go_ret
  exact ⟨rfl, hb1⟩
 | false =>
  have d1 : decide (0 ≤ idxP p 0 l) = false := decide_eq_false (HA.out.2 hq)
  clear hq
  go_wp2_with (go_at_call 114; refine HI.out.mono ?_; rintro e w1 ⟨rfl, hb1⟩)
  go_ret
  exact ⟨rfl, hb1⟩
end Go.Proofs.YthgfdnffnbclpaaGreatDoor.PAll
