import Derived.Test.YthgfdnffnbclpaaGreatDoorSQC07
import Derived.Test.YthgfdnffnbclpaaGreatDoorSQC15
import Derived.Lib.SliceRun
import Derived.Test.YthgfdnffnbclpaaGreatDoorSQC03
import Derived.Test.YthgfdnffnbclpaaGreatDoorSQC10
import Derived.Test.YthgfdnffnbclpaaGreatDoorSQC06
set_option linter.unusedVariables false
set_option linter.unusedSimpArgs false
namespace Go.Proofs.YthgfdnffnbclpaaGreatDoor.PAll
open Go.RowKit Go.Proofs.YthgfdnffnbclpaaGreatDoorW.PrintWords Go.Proofs.YthgfdnffnbclpaaGreatDoorW.PrintLast Go.Proofs.YthgfdnffnbclpaaGreatDoorW.PrintMore
set_option maxHeartbeats 4000000 in
set_option maxRecDepth 100000 in
theorem zfE (A0 : Option Addr) (c0 : Nat) (s : List S49) (w : World) (hr0 : Kd.C k49 w A0 s.length s) (hc0 : s.length ≤ c0) (hs : zbw s) :
  Calls Tryz.prog 34 #[.slice A0 s.length c0] w fun e w' => ∃ v0_ : Value, e = .returned (v0_) ∧ Kd.S k49a 72 w' w.heap.size (fun _ => True) v0_ s ∧ Below w.heap.size w w' := by
 have HR := Aside0.mk hr0
 have HS := Aside0.mk hs
 have HB0 := Aside0.mk (Below.refl w.heap.size w)
 have hlen := hs.1
 clear hr0 hs
 obtain ⟨i0, hi0, hz0, hz1, hz2⟩ := info_parts (P := Tryz.prog) zeL
 obtain ⟨W1, hmk0, hown0, hgr0⟩ := run_make_own w w.heap.size 23 72 i0 _ 5 Tryz.underlying23 hi0 hz0 hz1 .i64 .i64 (s.length + 1) (by rw [hz2]; omega) (by unfold maxLen; omega) (Nat.le_refl _)
 have HB1 : Aside0 (Below w.heap.size w W1) := ⟨HB0.out.grown hgr0 (Nat.le_refl _) (fun j hj => by cases hj)⟩
 have HO1 : Aside0 (Kd.S k49a 72 W1 w.heap.size (fun _ => True) (.slice (some ⟨w.heap.size, 0, none⟩) 0 (s.length + 1)) []) := ⟨⟨fun _ => 0, fun _ _ => trivial, [], hown0, Reps.none _ _⟩⟩
 rw [show ((s.length + 1 : Nat) : Int) = (s.length : Int) + 1 by omega] at hmk0
 clear hown0 hgr0 hi0 hz0 hz1 hz2 HB0
 go_enter Tryz.func34, Tryz.ntmps34
 go_wp2
 go_loopg [3, 13] s.length (fun gk v3 v13 wx => ∃ (i : Nat), i + gk = s.length ∧ v13 = .int .i64 i ∧ Aside0 (Kd.S k49a 72 wx w.heap.size (fun _ => True) v3 (s.take i)) ∧ Aside0 (Below w.heap.size w wx))
 case atStart => exact ⟨0, by omega, rfl, by simpa using HO1, HB1⟩
 case round =>
  clear HO1 HB1 hmk0
  obtain ⟨i, hi, rfl, HO, HB⟩ := hrel
  cases gk with
  | zero =>
   have e : s.take i = s := List.take_of_length_le (by omega)
   have hii : ¬ (i : Int) < (s.length : Int) := by omega
   rw [e] at HO
   go_wp2
   go_ret
   exact ⟨_, rfl, HO.out, HB.out⟩
  | succ gk =>
   have hlt : i < s.length := by omega
   have hii : (i : Int) < (s.length : Int) := by omega
   have hi0 : (0 : Int) ≤ (i : Int) := by omega
   have hrd : rd_T49 s (i : Int) = s[i] := by unfold rd_T49; simp [List.getD, hlt]
   obtain ⟨aa, P1, p1, P2, p2, P3, p3, P4, p4, haa, z0, z1, z2, z3, z4, m1, C1, m2, C2, m3, C3, m4, C4⟩ := zaR HR.out (i : Int) hi0 hii
   cases haa
   rw [hrd] at z0 z1 z2 z3 z4 m1 C1 m2 C2 m3 C3 m4 C4
   rw [Int.toNat_natCast] at z0 z1 z2 z3 z4
   replace z0 := (HB.out.cell (World.block_lt_of_cell? w _ z0)).trans z0
   replace z1 := (HB.out.cell (World.block_lt_of_cell? w _ z1)).trans z1
   replace z2 := (HB.out.cell (World.block_lt_of_cell? w _ z2)).trans z2
   replace z3 := (HB.out.cell (World.block_lt_of_cell? w _ z3)).trans z3
   replace z4 := (HB.out.cell (World.block_lt_of_cell? w _ z4)).trans z4
   have hsm := HS.out.2 s[i] (List.getElem_mem hlt)
   have HT := Aside0.mk (zay hlt)
   generalize s[i] = x at *
   have HSM := Aside0.mk hsm
   have HC1 := Aside0.mk C1
   have HC2 := Aside0.mk C2
   have HC3 := Aside0.mk C3
   have HC4 := Aside0.mk C4
   clear hrd hsm C1 C2 C3 C4
   go_upto_region 5 with (fail)
   obtain ⟨B, hB⟩ : ∃ B, B = wr.heap.size := ⟨_, rfl⟩
   obtain ⟨Wa, hWa⟩ : ∃ W, W = wr.alloc (Obj.cells #[Value.string x.f0, Value.slice P1 x.f1.length p1, Value.slice P2 x.f2.length p2, Value.slice P3 x.f3.length p3, Value.slice P4 x.f4.length p4] 72) := ⟨_, rfl⟩
   have hba : Wa.heap[B]? = some (.cells #[Value.string x.f0, Value.slice P1 x.f1.length p1, Value.slice P2 x.f2.length p2, Value.slice P3 x.f3.length p3, Value.slice P4 x.f4.length p4] 72 (0, 0)) := by rw [hWa, hB]; exact Go.Deep.blk_alloc_new wr _
   have hBa : Below w.heap.size w Wa := by rw [hWa]; exact below_step HB.out ((Below.refl _ _).alloc (Nat.le_refl _) _)
   have hBw : w.heap.size ≤ B := by rw [hB]; exact HB.out.size
   have hBr : Below wr.heap.size wr Wa := by rw [hWa]; exact (Below.refl _ _).alloc (Nat.le_refl _) _
   have hBs : B < Wa.heap.size := zah hba
   have hBe : wr.heap.size ≤ B := by omega
   rw [← hWa, ← hB]
   clear hWa hB z0 z1 z2 z3 z4
   have hx1 : Wa.cell? ⟨B, 1, none⟩ = some (Value.slice P1 x.f1.length p1) := (zad hba 1).trans rfl
   have hx1f := zaf hba 1
   have HN1 := Aside0.mk (zg1 P1 p1 x.f1 Wa (Kd.C_below HC1.out hBa) m1 (by have := HSM.out.1; omega))
   go_upto_region 6 with (go_at_call 84; refine HN1.out.mono ?_; rintro e w1 ⟨v1, rfl, hv1, hb1⟩; obtain ⟨A5, c5, ev⟩ := Kd.R_slice hv1; subst ev; have hbb := (hb1.block _ (zah hba)).trans hba; have hx1 : w1.cell? ⟨B, 1, none⟩ = some (Value.slice P1 x.f1.length p1) := (zad hbb 1).trans rfl; have hx1f := zaf hbb 1)
   obtain ⟨Wb, hWb⟩ : ∃ W, W = w1.setCell ⟨B, 1, none⟩ (Value.slice A5 x.f1.length c5) := ⟨_, rfl⟩
   have hbB : Wb.heap[B]? = some (.cells #[Value.string x.f0, Value.slice A5 x.f1.length c5, Value.slice P2 x.f2.length p2, Value.slice P3 x.f3.length p3, Value.slice P4 x.f4.length p4] 72 (0, 0)) := by rw [hWb]; exact zas hbb 1 _ rfl
   have hBb : Below wr.heap.size wr Wb := by rw [hWb]; exact zag (below_step hBr hb1) (by omega)
   have HV1 : Aside0 (Kd.R k78 83 Wb Wa.heap.size (fun k => B < k) (Value.slice A5 x.f1.length c5) x.f1) := ⟨by rw [hWb]; exact Kd.R_far (Kd.R_mono (Kd.R_bound hv1) (fun k hk => Nat.lt_of_lt_of_le hBs hk.2.1)) (fun k hk => Nat.ne_of_gt hk) _⟩
   rw [← hWb]
   clear hWb hbb hv1 hb1 hba hx1 hx1f HN1
   have HBw := Aside0.mk (below_step HB.out hBb)
   have hx2 : Wb.cell? ⟨B, 2, none⟩ = some (Value.slice P2 x.f2.length p2) := (zad hbB 2).trans rfl
   have HN2 := Aside0.mk (zeP P2 p2 x.f2 Wb (Kd.C_below HC2.out HBw.out) m2 HSM.out.2.1)
   go_upto_region 7 with (go_at_call 85; refine HN2.out.mono ?_; rintro e w2 ⟨v2, rfl, hv2, hb2⟩; obtain ⟨A6, c6, ev⟩ := Kd.S_slice hv2; subst ev; have hbb := (hb2.block _ (zah hbB)).trans hbB; have hx2 : w2.cell? ⟨B, 2, none⟩ = some (Value.slice P2 x.f2.length p2) := (zad hbb 2).trans rfl; have hx2f := zaf hbb 2)
   obtain ⟨Wc, hWc⟩ : ∃ W, W = w2.setCell ⟨B, 2, none⟩ (Value.slice A6 x.f2.length c6) := ⟨_, rfl⟩
   have hbC : Wc.heap[B]? = some (.cells #[Value.string x.f0, Value.slice A5 x.f1.length c5, Value.slice A6 x.f2.length c6, Value.slice P3 x.f3.length p3, Value.slice P4 x.f4.length p4] 72 (0, 0)) := by rw [hWc]; exact zas hbb 2 _ rfl
   have hBc : Below wr.heap.size wr Wc := by rw [hWc]; exact zag (below_step hBb hb2) (by omega)
   have hBb2 : B < Wb.heap.size := zah hbB
   have HV1c : Aside0 (Kd.R k78 83 Wc B (fun k => B < k) (Value.slice A5 x.f1.length c5) x.f1) := ⟨by rw [hWc]; exact Kd.R_lower (Kd.R_far (Kd.R_below HV1.out hb2) (fun k hk => Nat.ne_of_gt hk) _) (Nat.le_of_lt hBs)⟩
   have HV2c : Aside0 (Kd.R (Kd.slice 3 (Kd.int .i64)) 70 Wc B (fun k => B < k) (Value.slice A6 x.f2.length c6) x.f2) := ⟨by rw [hWc]; exact Kd.R_lower (Kd.R_far (Kd.R_mono (Kd.R_bound (Kd.S_R hv2)) (fun k hk => Nat.lt_of_lt_of_le hBb2 hk.2.1)) (fun k hk => Nat.ne_of_gt hk) _) (Nat.le_of_lt hBb2)⟩
   rw [← hWc]
   clear hWc hbb hv2 hb2 hbB hx2 hx2f HN2 HV1 HBw hBb
   have HBw := Aside0.mk (below_step HB.out hBc)
   have hx3 : Wc.cell? ⟨B, 3, none⟩ = some (Value.slice P3 x.f3.length p3) := (zad hbC 3).trans rfl
   obtain ⟨L, hL, hCL0, hLx⟩ := zlV HC3.out
   have hCL := Kd.C_below hCL0 HBw.out
   have hn3 := zgQ P3 p3 L Wc (by rw [hL]; exact hCL) (by rw [hL]; exact m3) (by have := HSM.out.2.2.1.1; omega)
   rw [hL] at hn3
   have HN3 := Aside0.mk hn3
   have HLX := Aside0.mk hLx
   have HL := Aside0.mk hL
   clear hn3 hLx hCL hCL0 hL
   go_upto_region 8 with (go_at_call 87; refine HN3.out.mono ?_; rintro e w3 ⟨v3, rfl, hv3, hb3⟩; obtain ⟨A7, c7, ev⟩ := Kd.R_slice hv3; rw [HL.out] at ev; subst ev; have hbb := (hb3.block _ (zah hbC)).trans hbC; have hx3 : w3.cell? ⟨B, 3, none⟩ = some (Value.slice P3 x.f3.length p3) := (zad hbb 3).trans rfl; have hx3f := zaf hbb 3)
   obtain ⟨Wd, hWd⟩ : ∃ W, W = w3.setCell ⟨B, 3, none⟩ (Value.slice A7 x.f3.length c7) := ⟨_, rfl⟩
   have hbD : Wd.heap[B]? = some (.cells #[Value.string x.f0, Value.slice A5 x.f1.length c5, Value.slice A6 x.f2.length c6, Value.slice A7 x.f3.length c7, Value.slice P4 x.f4.length p4] 72 (0, 0)) := by rw [hWd]; exact zas hbb 3 _ rfl
   have hBd : Below w.heap.size w Wd := by rw [hWd]; exact zag (below_step HBw.out hb3) (by omega)
   have hBc2 : B < Wc.heap.size := zah hbC
   have HV1d : Aside0 (Kd.R k78 83 Wd B (fun k => B < k ∧ k < Wc.heap.size) (Value.slice A5 x.f1.length c5) x.f1) := ⟨by rw [hWd]; exact Kd.R_far (Kd.R_below (Kd.R_mono (Kd.R_bound HV1c.out) (fun k hk => ⟨hk.1, hk.2.2.1⟩)) hb3) (fun k hk => Nat.ne_of_gt hk.1) _⟩
   have HV2d : Aside0 (Kd.R (Kd.slice 3 (Kd.int .i64)) 70 Wd B (fun k => B < k ∧ k < Wc.heap.size) (Value.slice A6 x.f2.length c6) x.f2) := ⟨by rw [hWd]; exact Kd.R_far (Kd.R_below (Kd.R_mono (Kd.R_bound HV2c.out) (fun k hk => ⟨hk.1, hk.2.2.1⟩)) hb3) (fun k hk => Nat.ne_of_gt hk.1) _⟩
   have HV3d : Aside0 (Kd.R (Kd.raw 3) 75 Wd B (fun k => Wc.heap.size ≤ k ∧ k < Wd.heap.size) (Value.slice A7 x.f3.length c7) L) := ⟨Kd.R_mono (Kd.R_bound (by rw [hWd]; exact Kd.R_lower (Kd.R_far (Kd.R_mono (Kd.R_bound hv3) (fun k hk => (hk.2.1 : Wc.heap.size ≤ k))) (fun k hk => Nat.ne_of_gt (Nat.lt_of_lt_of_le hBc2 hk)) _) (Nat.le_of_lt hBc2))) (fun k hk => ⟨hk.1, hk.2.2.1⟩)⟩
   have HO4 : Aside0 (Kd.S k49a 72 Wd w.heap.size (fun k => k < B) u3 (s.take i)) := ⟨by rw [hWd]; exact Kd.S_far (Kd.S_below (Kd.S_mono (Kd.S_old HO.out hBc) (fun k hk => Nat.lt_of_lt_of_le hk.2 hBe)) hb3) (fun k hk => Nat.ne_of_lt hk) _⟩
   rw [← hWd]
   have HBd := Aside0.mk hBd
   have HBD := Aside0.mk hbD
   have hx3d : Wd.cell? ⟨B, 3, none⟩ = some (Value.slice A7 x.f3.length c7) := (zad hbD 3).trans rfl
   have HLd : Aside0 (∀ j y, x.f3[j]? = some y → (j < 0 → ∃ v', L[j]? = some [v', Value.int .i64 y.f1, Value.int .i64 y.f2] ∧ (Kd.int .i64).R 3 Wd B (fun k => Wd.heap.size ≤ k) v' y.f0) ∧ (0 ≤ j → ∃ A' c', L[j]? = some [Value.slice A' y.f0.length c', Value.int .i64 y.f1, Value.int .i64 y.f2] ∧ y.f0.length ≤ c' ∧ (Kd.int .i64).C w A' y.f0.length y.f0)) := ⟨fun j y hy => ⟨fun h => by omega, fun _ => HLX.out j y hy⟩⟩
   have HBD2 : Aside0 (B < Wd.heap.size) := ⟨zah hbD⟩
   clear hWd hBd hbD HV1c HV2c hv3 hb3 hbb hx3f HN3 HBw hBb2 hBc HLX HO hbC
   go_wp2
   clear hx3d
   go_loopg [32] x.f3.length (fun gk v32 wx => ∃ (m : Nat) (L' : List (List Value)), m + gk = x.f3.length ∧ v32 = .int .i64 m ∧ Aside0 (wx.heap[B]? = some (.cells #[Value.string x.f0, Value.slice A5 x.f1.length c5, Value.slice A6 x.f2.length c6, Value.slice A7 x.f3.length c7, Value.slice P4 x.f4.length p4] 72 (0, 0)))
    ∧ Aside0 (Kd.R k78 83 wx B (fun k => B < k ∧ k < Wc.heap.size) (Value.slice A5 x.f1.length c5) x.f1) ∧ Aside0 (Kd.R (Kd.slice 3 (Kd.int .i64)) 70 wx B (fun k => B < k ∧ k < Wc.heap.size) (Value.slice A6 x.f2.length c6) x.f2)
    ∧ Aside0 (Kd.R (Kd.raw 3) 75 wx B (fun k => Wc.heap.size ≤ k ∧ k < Wd.heap.size) (Value.slice A7 x.f3.length c7) L') ∧ Aside0 (L'.length = x.f3.length)
    ∧ Aside0 (∀ j y, x.f3[j]? = some y → (j < m → ∃ v', L'[j]? = some [v', Value.int .i64 y.f1, Value.int .i64 y.f2] ∧ (Kd.int .i64).R 3 wx B (fun k => Wd.heap.size ≤ k) v' y.f0) ∧ (m ≤ j → ∃ A' c', L'[j]? = some [Value.slice A' y.f0.length c', Value.int .i64 y.f1, Value.int .i64 y.f2] ∧ y.f0.length ≤ c' ∧ (Kd.int .i64).C w A' y.f0.length y.f0))
    ∧ Aside0 (Kd.S k49a 72 wx w.heap.size (fun k => k < B) u3 (s.take i)) ∧ Aside0 (Below w.heap.size w wx) ∧ Aside0 (Wd.heap.size ≤ wx.heap.size))
   case atStart => exact ⟨0, L, by omega, rfl, HBD, HV1d, HV2d, HV3d, HL, HLd, HO4, HBd, ⟨Nat.le_refl _⟩⟩
   case round =>
    clear HBD HV1d HV2d HV3d HL HLd HO4 HBd
    obtain ⟨m, L', hm, rfl, HBX, HV1, HV2, HV3, HL, HLX, HO, HBW, HSZ⟩ := hrel
    cases gk with
    | succ gi =>
     have hlt : m < x.f3.length := by omega
     have hmi : (m : Int) < (x.f3.length : Int) := by omega
     have hm0 : (0 : Int) ≤ (m : Int) := by omega
     obtain ⟨G, cap, ev, hg1, hg2, gcells, hgc⟩ := Kd.R_form HV3.out (by rw [HL.out]; omega)
     rw [HL.out] at ev
     simp only [Value.slice.injEq, true_and] at ev
     obtain ⟨eA, eC⟩ := ev
     subst eA
     obtain ⟨hge, hgs⟩ : Wc.heap.size ≤ G ∧ G < Wd.heap.size := HV3.out.1 G (by simp [Value.ownBlock])
     obtain ⟨A', c', hLm, hcl, hC'⟩ := (HLX.out m x.f3[m] (List.getElem?_eq_getElem hlt)).2 (Nat.le_refl _)
     obtain ⟨cc, hccl, hccM, hcc⟩ := Kd.R_getA HV3.out ([] : List Value) (m : Int) hm0 hmi
     have hgd : L'.getD (m : Int).toNat [] = [Value.slice A' x.f3[m].f0.length c', Value.int .i64 x.f3[m].f1, Value.int .i64 x.f3[m].f2] := by rw [Int.toNat_natCast, List.getD_eq_getElem?_getD, hLm]; rfl
     rw [hgd] at hccM
     have hce : cc = [Value.slice A' x.f3[m].f0.length c', Value.int .i64 x.f3[m].f1, Value.int .i64 x.f3[m].f2] := hccM.1
     subst hce
     have hcell0 := hcc 0 _ rfl
     have hcell : wr.cell? ⟨G, m * 3, none⟩ = some (Value.slice A' x.f3[m].f0.length c') := by rw [zaI] at hcell0; simpa [Kd.raw] using hcell0
     have hbox : wr.cell? ⟨B, 3, none⟩ = some (Value.slice (some ⟨G, 0, none⟩) x.f3.length c7) := (zad HBX.out 3).trans rfl
     have hrow := (HSM.out.2.2.1.2 x.f3[m] (List.getElem_mem hlt))
     have hBs2 : Wc.heap.size ≤ wr.drew.heap.size := by show Wc.heap.size ≤ wr.heap.size; omega
     have hfit : m * 3 + 1 ≤ gcells.size := by
      have h2 := (zad hgc (m * 3)).symm.trans hcell
      have := (Array.getElem?_eq_some_iff.1 h2).1
      omega
     have hyj : x.f3[m]? = some x.f3[m] := List.getElem?_eq_getElem hlt
     generalize x.f3[m] = y at *
     have HN : Aside0 (Calls Tryz.prog 86 #[.slice A' y.f0.length c'] wr.drew fun e w' => ∃ v0_ : Value, e = .returned (v0_) ∧ Kd.R (Kd.int .i64) 3 w' wr.drew.heap.size (fun _ => True) v0_ y.f0 ∧ Below wr.drew.heap.size wr.drew w') := ⟨zcu A' c' y.f0 wr.drew (Kd.C_below hC' (zab HBW.out)) hcl (by omega)⟩
     have hd : wr.drew.cell? ⟨B, 3, none⟩ = some (Value.slice (some ⟨G, 0, none⟩) x.f3.length c7) ∧ wr.drew.cell? ⟨G, m * 3, none⟩ = some (Value.slice A' y.f0.length c') := ⟨hbox, hcell⟩
     have HCC : Aside0 (∀ j u, [Value.slice A' y.f0.length c', Value.int .i64 y.f1, Value.int .i64 y.f2][j]? = some u → wr.drew.cell? ⟨G, m * 3 + j, none⟩ = some u) := ⟨fun j u hj => by have := hcc j u hj; rw [zaI, Int.toNat_natCast] at this; simpa [Kd.raw] using this⟩
     have HBXd : Aside0 (wr.drew.heap[B]? = some (.cells #[Value.string x.f0, Value.slice A5 x.f1.length c5, Value.slice A6 x.f2.length c6, Value.slice (some ⟨G, 0, none⟩) x.f3.length c7, Value.slice P4 x.f4.length p4] 72 (0, 0))) := ⟨HBX.out⟩
     have HGC : Aside0 (wr.drew.heap[G]? = some (.cells gcells 75 (0, 0))) := ⟨hgc⟩
     have HGS : Aside0 (Wc.heap.size ≤ G ∧ G < Wd.heap.size ∧ Wd.heap.size ≤ wr.drew.heap.size) := ⟨hge, hgs, HSZ.out⟩
     have HV1d := Aside0.mk (Kd.R_drew HV1.out)
     have HV2d := Aside0.mk (Kd.R_drew HV2.out)
     have HV3d := Aside0.mk (Kd.R_drew HV3.out)
     have HOd := Aside0.mk (Kd.S_drew HO.out)
     have HBWd := Aside0.mk (zab HBW.out)
     have HLXd : Aside0 (∀ j z, x.f3[j]? = some z → (j < m → ∃ v', L'[j]? = some [v', Value.int .i64 z.f1, Value.int .i64 z.f2] ∧ (Kd.int .i64).R 3 wr.drew B (fun k => Wd.heap.size ≤ k) v' z.f0) ∧ (m ≤ j → ∃ A' c', L'[j]? = some [Value.slice A' z.f0.length c', Value.int .i64 z.f1, Value.int .i64 z.f2] ∧ z.f0.length ≤ c' ∧ (Kd.int .i64).C w A' z.f0.length z.f0)) := ⟨fun j z hz => ⟨fun h => by obtain ⟨v', h1, h2⟩ := (HLX.out j z hz).1 h; exact ⟨v', h1, Kd.R_drew h2⟩, (HLX.out j z hz).2⟩⟩
     have HYJ := Aside0.mk hyj
     have hBc3 : Aside0 (B < Wc.heap.size) := ⟨hBc2⟩
     clear hbox hcell hcell0 hcc hccM hccl hgd hLm hgc hge hgs hrow hBs2 HV1 HV2 HV3 HO HBW HLX HBX HSZ hC' hyj hBc2 hg1 hg2
     go_wp2
     refine zbI (n := 13) (S := fun W => W.cell? ⟨B, 3, none⟩ = some (Value.slice (some ⟨G, 0, none⟩) x.f3.length c7) ∧ W.cell? ⟨G, m * 3, none⟩ = some (Value.slice A' y.f0.length c')) (ds := [12]) #[false, false, false, false, false, false, false, false, false, false, false, false, false] (by kernel_rfl) rfl rfl hd (fun hHeld => ?_)
     clear hd
     generalize wr.drew = W1 at *
     refine zau (i := 0) (N := some 35) (v := ?_) (a' := ?_) #[true, false, false, false, false, false, false, false, false, false, false, false, false] rfl rfl (by kernel_rfl) (fun _ _ _ h => h) (Or.inl ⟨by rfl, ?_⟩) ?_ ?_
     rotate_left
     ·intro w'; go_simp; with_reducible rfl
     rotate_left
     ·simp only [Act.put, List.setIfInBounds_toArray, List.set_cons_zero, List.set_cons_succ, zaj, zak]; rfl
     refine take_ (i := 1) (N := some 36) (v := ?_) (a' := ?_) #[true, true, false, false, false, false, false, false, false, false, false, false, false] rfl rfl (by kernel_rfl) (fun _ _ _ h => h) (Or.inl ⟨by rfl, ?_⟩) hHeld ?_ ?_
     rotate_left
     ·rintro w' ⟨s0, s1⟩; go_simp; with_reducible rfl
     rotate_left
     ·simp only [Act.put, List.setIfInBounds_toArray, List.set_cons_zero, List.set_cons_succ, zaj, zak]; rfl
     refine zau (i := 2) (N := some 37) (v := ?_) (a' := ?_) #[true, true, true, false, false, false, false, false, false, false, false, false, false] rfl rfl (by kernel_rfl) (fun _ _ _ h => h) (Or.inl ⟨by rfl, ?_⟩) ?_ ?_
     rotate_left
     ·intro w'; go_simp; with_reducible rfl
     rotate_left
     ·simp only [Act.put, List.setIfInBounds_toArray, List.set_cons_zero, List.set_cons_succ, zaj, zak]; rfl
     refine zau (i := 3) (N := some 38) (v := ?_) (a' := ?_) #[true, true, true, true, false, false, false, false, false, false, false, false, false] rfl rfl (by kernel_rfl) (fun _ _ _ h => h) (Or.inl ⟨by rfl, ?_⟩) ?_ ?_
     rotate_left
     ·intro w'; go_simp; with_reducible rfl
     rotate_left
     ·simp only [Act.put, List.setIfInBounds_toArray, List.set_cons_zero, List.set_cons_succ, zaj, zak]; rfl
     refine take_ (i := 4) (N := some 39) (v := ?_) (a' := ?_) #[true, true, true, true, true, false, false, false, false, false, false, false, false] rfl rfl (by kernel_rfl) (fun _ _ _ h => h) (Or.inl ⟨by rfl, ?_⟩) hHeld ?_ ?_
     rotate_left
     ·rintro w' ⟨s0, s1⟩; go_simp; with_reducible rfl
     rotate_left
     ·simp only [Act.put, List.setIfInBounds_toArray, List.set_cons_zero, List.set_cons_succ, zaj, zak]; rfl
     refine zau (i := 5) (N := some 40) (v := ?_) (a' := ?_) #[true, true, true, true, true, true, false, false, false, false, false, false, false] rfl rfl (by kernel_rfl) (fun _ _ _ h => h) (Or.inl ⟨by rfl, ?_⟩) ?_ ?_
     rotate_left
     ·intro w'; go_simp; with_reducible rfl
     rotate_left
     ·simp only [Act.put, List.setIfInBounds_toArray, List.set_cons_zero, List.set_cons_succ, zaj, zak]; rfl
     refine zau (i := 6) (N := some 41) (v := ?_) (a' := ?_) #[true, true, true, true, true, true, true, false, false, false, false, false, false] rfl rfl (by kernel_rfl) (fun _ _ _ h => h) (Or.inl ⟨by rfl, ?_⟩) ?_ ?_
     rotate_left
     ·intro w'; go_simp; with_reducible rfl
     rotate_left
     ·simp only [Act.put, List.setIfInBounds_toArray, List.set_cons_zero, List.set_cons_succ, zaj, zak]; rfl
     refine zau (i := 7) (N := some 42) (v := ?_) (a' := ?_) #[true, true, true, true, true, true, true, true, false, false, false, false, false] rfl rfl (by kernel_rfl) (fun _ _ _ h => h) (Or.inl ⟨by rfl, ?_⟩) ?_ ?_
     rotate_left
     ·intro w'; go_simp; with_reducible rfl
     rotate_left
     ·simp only [Act.put, List.setIfInBounds_toArray, List.set_cons_zero, List.set_cons_succ, zaj, zak]; rfl
     refine take_ (i := 8) (N := some 43) (v := ?_) (a' := ?_) #[true, true, true, true, true, true, true, true, true, false, false, false, false] rfl rfl (by kernel_rfl) (fun _ _ _ h => h) (Or.inl ⟨by rfl, ?_⟩) hHeld ?_ ?_
     rotate_left
     ·rintro w' ⟨s0, s1⟩; go_simp; with_reducible rfl
     rotate_left
     ·simp only [Act.put, List.setIfInBounds_toArray, List.set_cons_zero, List.set_cons_succ, zaj, zak]; rfl
     refine one_ (i := 9) (N := some 44) #[true, true, true, true, true, true, true, true, true, true, false, false, false] rfl rfl (by kernel_rfl) (by decide) (fun K hK => ?_)
     refine zgH Tryz.func86 (by kernel_rfl) rfl #[.slice A' y.f0.length c'] (by rfl) rfl rfl (by (try simp only [List.map_toArray, List.map_cons, List.map_nil]); first | done | rfl) ?_
     refine HN.out.mono ?_
     rintro e W2 ⟨v9, rfl, hv9, hb9⟩
     obtain ⟨A9, c9, e9⟩ := Kd.R_slice hv9
     subst e9
     refine ⟨_, rfl, ?_⟩
     refine hK.out _ _ ⟨(hb9.cell (World.block_lt_of_cell? W1 _ hHeld.1)).trans hHeld.1, (hb9.cell (World.block_lt_of_cell? W1 _ hHeld.2)).trans hHeld.2⟩ (fun hHeld2 => ?_)
     clear hK K
     refine za8 (a' := ?_) ?_ ?_
     rotate_left
     ·show Act.put _ (some 44) _ = _; simp only [Act.put, List.setIfInBounds_toArray, List.set_cons_zero, List.set_cons_succ, zaj, zak]; rfl
     refine zau (i := 10) (N := some 45) (v := ?_) (a' := ?_) #[true, true, true, true, true, true, true, true, true, true, true, false, false] rfl rfl (by kernel_rfl) (fun _ _ _ h => h) (Or.inl ⟨by rfl, ?_⟩) ?_ ?_
     rotate_left
     ·intro w'; go_simp; with_reducible rfl
     rotate_left
     ·simp only [Act.put, List.setIfInBounds_toArray, List.set_cons_zero, List.set_cons_succ, zaj, zak]; rfl
     refine zau (i := 11) (N := some 46) (v := ?_) (a' := ?_) #[true, true, true, true, true, true, true, true, true, true, true, true, false] rfl rfl (by kernel_rfl) (fun _ _ _ h => h) (Or.inl ⟨by rfl, ?_⟩) ?_ ?_
     rotate_left
     ·intro w'; go_simp; with_reducible rfl
     rotate_left
     ·simp only [Act.put, List.setIfInBounds_toArray, List.set_cons_zero, List.set_cons_succ, zaj, zak]; rfl
     refine zfh (i := 12) (N := none) #[true, true, true, true, true, true, true, true, true, true, true, true, true] rfl rfl (by kernel_rfl) (by decide) (fun K hK => ?_)
     have hgc2 : W2.heap[G]? = some (.cells gcells 75 (0, 0)) := (hb9.block G (zah HGC.out)).trans HGC.out
     refine zaL (by rfl) 70 (.tmp 46) (.tmp 44) rfl rfl rfl rfl (zaG 70 (.slice A9 y.f0.length c9) [.slice A9 y.f0.length c9] hgc2 rfl (by kernel_rfl) (by simpa using hfit) (by simp [Value.oneCell'])) ?_
     refine hK.out _ _ ?_
     clear hK K
     refine zc8 (by kernel_rfl) ?_
     obtain ⟨g1, g2, g3⟩ := HGS.out
     obtain ⟨hR3, hgr⟩ := Kd.R_seg (Kd.R_below HV3d.out hb9) (m : Int) hm0 hmi (c := [Value.slice A' y.f0.length c', Value.int .i64 y.f1, Value.int .i64 y.f2]) (seg := [Value.slice A9 y.f0.length c9]) (j := 0) rfl (fun j u hj => by
      have h := HCC.out j u hj
      have := (hb9.cell (World.block_lt_of_cell? W1 _ h)).trans h
      simpa [Kd.raw] using this) (by show 0 + 1 ≤ 3; omega) (x' := [Value.slice A9 y.f0.length c9, Value.int .i64 y.f1, Value.int .i64 y.f2]) (okp := fun _ => False) ⟨rfl, rfl, by simp [Value.oneCell']⟩ (fun _ h => h.elim)
     have hoff : (m : Int).toNat * (Kd.raw 3).sz + 0 = m * 3 := by simp [Kd.raw]
     rw [hoff] at hR3 hgr
     have hWz : Below w.heap.size w (W2.setCells G (m * 3) [Value.slice A9 y.f0.length c9]) := Go.below_setCells (by have := hBc3.out; omega) _ _ _ (below_step HBWd.out hb9)
     have hnG : ∀ k, k < Wc.heap.size → some k ≠ some G := fun k hk he => by injection he with he; omega
     have hBXz := (hgr.block B (Nat.lt_of_lt_of_le (zah HBXd.out) hb9.size) (hnG B hBc3.out)).trans ((hb9.block B (zah HBXd.out)).trans HBXd.out)
     have hV1z := Kd.R_grown (Kd.R_below HV1d.out hb9) hgr (fun k hk => hnG k hk.2)
     have hV2z := Kd.R_grown (Kd.R_below HV2d.out hb9) hgr (fun k hk => hnG k hk.2)
     have hOz := Kd.S_grown (Kd.S_below HOd.out hb9) hgr (fun k hk => hnG k (Nat.lt_trans hk hBc3.out))
     have hnew : Kd.R (Kd.int .i64) 3 (W2.setCells G (m * 3) [Value.slice A9 y.f0.length c9]) B (fun k => Wd.heap.size ≤ k) (.slice A9 y.f0.length c9) y.f0 := Kd.R_grown (Kd.R_lower (Kd.R_mono (Kd.R_bound hv9) (fun k hk => Nat.le_trans g3 hk.2.1)) (by have := hBc3.out; omega)) hgr (fun k hk he => by injection he with he; omega)
     have HSZz : Aside0 (Wd.heap.size ≤ (W2.setCells G (m * 3) [Value.slice A9 y.f0.length c9]).heap.size) := ⟨Nat.le_trans g3 (Nat.le_trans hb9.size hgr.size)⟩
     have hLz : Aside0 (∀ j z, x.f3[j]? = some z → (j < m + 1 → ∃ v', (L'.set m [Value.slice A9 y.f0.length c9, Value.int .i64 y.f1, Value.int .i64 y.f2])[j]? = some [v', Value.int .i64 z.f1, Value.int .i64 z.f2] ∧ (Kd.int .i64).R 3 (W2.setCells G (m * 3) [Value.slice A9 y.f0.length c9]) B (fun k => Wd.heap.size ≤ k) v' z.f0) ∧ (m + 1 ≤ j → ∃ A' c', (L'.set m [Value.slice A9 y.f0.length c9, Value.int .i64 y.f1, Value.int .i64 y.f2])[j]? = some [Value.slice A' z.f0.length c', Value.int .i64 z.f1, Value.int .i64 z.f2] ∧ z.f0.length ≤ c' ∧ (Kd.int .i64).C w A' z.f0.length z.f0)) := ⟨fun j z hz => by
      have hlL : m < L'.length := by rw [HL.out]; omega
      by_cases e : j = m
      ·subst e
       rw [HYJ.out] at hz
       obtain rfl := Option.some.inj hz
       exact ⟨fun _ => ⟨_, List.getElem?_set_self hlL, hnew⟩, fun h => by omega⟩
      ·rw [List.getElem?_set_ne (Ne.symm e)]
       refine ⟨fun h => ?_, fun h => (HLXd.out j z hz).2 (by omega)⟩
       obtain ⟨v', h1, h2⟩ := (HLXd.out j z hz).1 (by omega)
       exact ⟨v', h1, Kd.R_grown (Kd.R_below h2 hb9) hgr (fun k hk he => by injection he with he; omega)⟩⟩
     rw [Int.toNat_natCast] at hR3
     have HLz : Aside0 ((L'.set m [Value.slice A9 y.f0.length c9, Value.int .i64 y.f1, Value.int .i64 y.f2]).length = x.f3.length) := ⟨by rw [List.length_set]; exact HL.out⟩
     generalize (W2.setCells G (m * 3) [Value.slice A9 y.f0.length c9]) = Wz at *
     have HBXz := Aside0.mk hBXz
     have HV1z := Aside0.mk hV1z
     have HV2z := Aside0.mk hV2z
     have HV3z := Aside0.mk hR3
     have HOz := Aside0.mk hOz
     have HWz := Aside0.mk hWz
     clear hBXz hV1z hV2z hR3 hOz hWz hnew hgr hnG hv9 hb9 hgc2 hHeld hHeld2 HV1d HV2d HV3d HOd HBWd HLXd HYJ HCC HBXd HGC HGS HN g1 g2 g3 hoff hfit HL
     go_wp2
     go_roundg gi
     case measure => omega
     case rel => exact ⟨m + 1, _, by omega, by first | rfl | (simp; done) | (have := HSM.out.2.2.1.1; simp; unfold wrap64; omega), HBXz, HV1z, HV2z, HV3z, HLz, hLz, HOz, HWz, HSZz⟩
    | zero =>
     have hmi : ¬ (m : Int) < (x.f3.length : Int) := by omega
     have hR3 : k75.R 75 wr B (fun k => B < k) (.slice A7 x.f3.length c7) x.f3 := zjt (Kd.R_mono HV3.out (fun k hk => Nat.lt_of_lt_of_le hBc2 hk.1)) HL.out (fun j y hy => by
      have hj : j < m := by have := (List.getElem?_eq_some_iff.1 hy).1; omega
      obtain ⟨v', h1, h2⟩ := (HLX.out j y hy).1 hj
      exact ⟨v', h1, Kd.R_mono h2 (fun k hk => ⟨Nat.lt_of_lt_of_le HBD2.out hk, fun he => by have := (HV3.out.1 k he.symm).2; omega⟩)⟩)
     have hx4 : wr.cell? ⟨B, 4, none⟩ = some (Value.slice P4 x.f4.length p4) := (zad HBX.out 4).trans rfl
     have HN4 := Aside0.mk (zcu P4 p4 x.f4 wr (Kd.C_below HC4.out HBW.out) m4 (by have := HSM.out.2.2.2; omega))
     have HR3 := Aside0.mk hR3
     clear hR3 HV3 HL HLX
     go_upto_region 14 with (go_at_call 86; refine HN4.out.mono ?_; rintro e w4 ⟨v4, rfl, hv4, hb4⟩; obtain ⟨A8, c8, ev⟩ := Kd.R_slice hv4; subst ev; have hbb := (hb4.block _ (zah HBX.out)).trans HBX.out; have hx4 : w4.cell? ⟨B, 4, none⟩ = some (Value.slice P4 x.f4.length p4) := (zad hbb 4).trans rfl; have hx4f := zaf hbb 4)
     obtain ⟨We, hWe⟩ : ∃ W, W = w4.setCell ⟨B, 4, none⟩ (Value.slice A8 x.f4.length c8) := ⟨_, rfl⟩
     have hBs3 : B < wr.heap.size := zah HBX.out
     have hbE : We.heap[B]? = some (.cells #[Value.string x.f0, Value.slice A5 x.f1.length c5, Value.slice A6 x.f2.length c6, Value.slice A7 x.f3.length c7, Value.slice A8 x.f4.length c8] 72 (0, 0)) := by rw [hWe]; exact zas hbb 4 _ rfl
     have hBe2 : Below w.heap.size w We := by rw [hWe]; exact zag (below_step HBW.out hb4) (by omega)
     have h1e : Kd.R k78 83 We B (fun k => B < k ∧ k < wr.heap.size) (Value.slice A5 x.f1.length c5) x.f1 := by rw [hWe]; exact Kd.R_far (Kd.R_below (Kd.R_mono (Kd.R_bound HV1.out) (fun k hk => ⟨hk.1.1, hk.2.2.1⟩)) hb4) (fun k hk => Nat.ne_of_gt hk.1) _
     have h2e : Kd.R (Kd.slice 3 (Kd.int .i64)) 70 We B (fun k => B < k ∧ k < wr.heap.size) (Value.slice A6 x.f2.length c6) x.f2 := by rw [hWe]; exact Kd.R_far (Kd.R_below (Kd.R_mono (Kd.R_bound HV2.out) (fun k hk => ⟨hk.1.1, hk.2.2.1⟩)) hb4) (fun k hk => Nat.ne_of_gt hk.1) _
     have h3e : k75.R 75 We B (fun k => B < k ∧ k < wr.heap.size) (Value.slice A7 x.f3.length c7) x.f3 := by rw [hWe]; exact Kd.R_far (Kd.R_below (Kd.R_mono (Kd.R_bound HR3.out) (fun k hk => ⟨hk.1, hk.2.2.1⟩)) hb4) (fun k hk => Nat.ne_of_gt hk.1) _
     have h4e : Kd.R (Kd.int .i64) 3 We B (fun k => wr.heap.size ≤ k) (Value.slice A8 x.f4.length c8) x.f4 := by rw [hWe]; exact Kd.R_lower (Kd.R_far (Kd.R_mono (Kd.R_bound hv4) (fun k hk => hk.2.1)) (fun k hk => Nat.ne_of_gt (Nat.lt_of_lt_of_le hBs3 hk)) _) (Nat.le_of_lt hBs3)
     have hOe : Kd.S k49a 72 We w.heap.size (fun k => k < B) u3 (s.take i) := by rw [hWe]; exact Kd.S_far (Kd.S_below HO.out hb4) (fun k hk => Nat.ne_of_lt hk) _
     have hM : MA We w.heap.size (fun k => B < k) x [Value.string x.f0, Value.slice A5 x.f1.length c5, Value.slice A6 x.f2.length c6, Value.slice A7 x.f3.length c7, Value.slice A8 x.f4.length c8] := ⟨fun k => wr.heap.size ≤ k, _, _, _, _, rfl, Kd.R_lower (Kd.R_mono h1e fun k hk => ⟨hk.1, Nat.not_le_of_lt hk.2⟩) hBw, Kd.R_lower (Kd.R_mono h2e fun k hk => ⟨hk.1, Nat.not_le_of_lt hk.2⟩) hBw, Kd.R_lower (Kd.R_mono h3e fun k hk => ⟨hk.1, Nat.not_le_of_lt hk.2⟩) hBw, Kd.R_lower (Kd.R_mono h4e fun k hk => ⟨Nat.lt_of_lt_of_le hBs3 hk, hk⟩) hBw⟩
     have HM := Aside0.mk hM
     have HOE := Aside0.mk hOe
     have HBE := Aside0.mk hBe2
     have he0 : We.cell? ⟨B, 0, none⟩ = some (Value.string x.f0) := (zad hbE 0).trans rfl
     have he1 : We.cell? ⟨B, 1, none⟩ = some (Value.slice A5 x.f1.length c5) := (zad hbE 1).trans rfl
     have he2 : We.cell? ⟨B, 2, none⟩ = some (Value.slice A6 x.f2.length c6) := (zad hbE 2).trans rfl
     have he3 : We.cell? ⟨B, 3, none⟩ = some (Value.slice A7 x.f3.length c7) := (zad hbE 3).trans rfl
     have he4 : We.cell? ⟨B, 4, none⟩ = some (Value.slice A8 x.f4.length c8) := (zad hbE 4).trans rfl
     have hlen2 : (s.take i).length ≤ 2000000 := by rw [List.length_take]; omega
     have HTI := HT
     rw [← hWe]
     clear hM hWe hbb hv4 hb4 hx4 hx4f hbE h1e h2e h3e h4e hOe hBe2 HBX HV1 HV2 HR3 HO HBW HN4 HSZ
     generalize s.take i = pre at *
     go_wp2_with ((with_reducible refine zam (b := .append) (xs := #[.tmp 52, .tmp 54]) rfl ?_); at_builtin; refine Kd.S_append k49a (w0 := w) w.heap.size rfl (.tmp 52) (.tmp 54) 23 72 (.agg #[(.string ⟨#[]⟩), (.slice none 0 0), (.slice none 0 0), (.slice none 0 0), (.slice none 0 0)]) 112 rfl Tryz.underlying23 zeL rfl (by decide) (by omega) u3 pre x [Value.string x.f0, Value.slice A5 x.f1.length c5, Value.slice A6 x.f2.length c6, Value.slice A7 x.f3.length c7, Value.slice A8 x.f4.length c8] (fun _ => True) (fun k_ => B < k_) rfl rfl HM.out ?aQ (fun _ _ => trivial) ?aO HBE.out HBE.out.size (by omega) ?_; (case aQ => exact fun k hk => ⟨trivial, fun he => by have h9 := HOE.out; have := (Kd.S_R h9).1 k he.symm; omega⟩); (case aO => exact Kd.S_mono HOE.out (fun k hk => ⟨trivial, fun h9 => by omega⟩)); intro v1 w2 hv1 hb2 _ _)
     go_roundg gk
     case measure => omega
     case rel => exact ⟨i + 1, by omega, by first | rfl | (simp; done) | (simp; unfold wrap64; omega), ⟨by rw [HT.out]; exact hv1⟩, ⟨hb2⟩⟩
theorem zgK (A0 : Option Addr) (c0 : Nat) (s : List S49) (w : World) (hr0 : Kd.C k49 w A0 s.length s) (hc0 : s.length ≤ c0) (hs : zbw s) :
  Calls Tryz.prog 34 #[.slice A0 s.length c0] w fun e w' => ∃ v0_ : Value, e = .returned (v0_) ∧ Kd.S k49 72 w' w.heap.size (fun _ => True) v0_ s ∧ Below w.heap.size w w' :=
 (zfE A0 c0 s w hr0 hc0 hs).mono fun e w' ⟨v, he, hS, hb⟩ => ⟨v, he, S_a hS, hb⟩
attribute [local go_sem] zbO zb2 zcx zcv zbm zbq zbN zb0
attribute [local go_sem high] ziq
def jointerref07_CopyRows.l0 : Nat → List (List (S64)) → List (List (S64)) → Int → Option ((List (List (S64))))
 | 0, _, _, _ => none
 | k + 1, x0, x3, x4 => if x4 < (x0.length : Int) then ((some (([] : List (S64)) : List (S64))).bind fun y415 => (if 0 ≤ x4 then (if y415.length + (rd_L12 x0 x4).length < 4398046511104 then (if x3.length < 5864062014805 then (jointerref07_CopyRows.l0 k x0 (x3 ++ [(y415 ++ (rd_L12 x0 x4))]) (wrap64 (x4 + 1))) else (none)) else (none)) else (none))) else (some x3)
def jointerref07_CopyRows.f (k : Nat) (l0 : List (List (S64))) : Option ((List (List (S64)))) := jointerref07_CopyRows.l0 k l0 ([] : List (List (S64))) 0
set_option maxHeartbeats 8000000 in
set_option maxRecDepth 100000 in
theorem jointerref07_CopyRows.calls (k : Nat) (A0 : Option Addr) (c0 : Nat) (l0 : List (List (S64))) (r : List (List (S64))) (w : World) (hr0 : Kd.C (Kd.slice 87 k64) w A0 l0.length l0) (hc0 : l0.length ≤ c0) (h : jointerref07_CopyRows.f k l0 = some r) :
  Calls Tryz.prog 21 #[.slice A0 l0.length c0] w fun e w' => ∃ v0_ : Value, e = .returned (v0_) ∧ Kd.S (Kd.slice 87 k64) 89 w' w.heap.size (fun _ => True) v0_ r ∧ Below w.heap.size w w' := by
 have HR0 := Aside0.mk hr0
 have HC0 := Aside0.mk hc0
 clear hr0 hc0
 have HB := Aside0.mk (Below.refl w.heap.size w)
 have H : (jointerref07_CopyRows.l0 k l0 ([] : List (List (S64))) 0) = some r := h
 clear h
 have H' := Aside0.mk H
 clear H
 go_enter Tryz.func21, Tryz.ntmps21
 go_wp2
 go_loopg [3, 4] k (fun kq v3 v4 w' => ∃ (x3_1 : List (List (S64))) (x4_1 : Int), v4 = .int .i64 x4_1 ∧ Aside0 (jointerref07_CopyRows.l0 kq l0 x3_1 x4_1 = some r) ∧ Aside0 (kq ≤ k) ∧ Aside0 (Kd.S (Kd.slice 87 k64) 89 w' w.heap.size (fun _ => True) v3 x3_1) ∧ Aside0 (Below w.heap.size w w'))
 case atStart => exact ⟨(([] : List (List (S64)))), (0), (by first | rfl | (simp; done) | (simp [*]; done)), H', ⟨Nat.le_refl _⟩, ⟨by first | exact Kd.S_nil _ _ _ _ _ | exact Kd.N_nil _ _ _ _ _ | exact Kd.V_nil _ _ _ _ _ | exact Kd.Q_nil _ _ _ _ _ | exact Kd.R_nil _ _ _ _ _⟩, ⟨by repeat (first | (with_reducible first | exact HB.out | apply zac | apply zaa | apply zab) | exact HB.out)⟩⟩
 case round =>
  clear H'
  obtain ⟨x3_1, x4_1, rfl, HA, HK1, HO_3, HB⟩ := hrel
  cases gk with
  | zero => exact absurd HA.out (by simp [jointerref07_CopyRows.l0])
  | succ k1 =>
   have H := HA.out
   clear HA
   simp only [jointerref07_CopyRows.l0] at H
   by_cases c2 : x4_1 < (l0.length : Int)
   ·rw [if_pos c2] at H
    have c2b0 : decide (x4_1 < (l0.length : Int)) = true := decide_eq_true c2
    clear c2
    obtain ⟨y415, hy415⟩ : ∃ y_ : List (S64), y_ = (([] : List (S64))) := ⟨_, rfl⟩
    replace H : (if 0 ≤ x4_1 then (if y415.length + (rd_L12 l0 x4_1).length < 4398046511104 then (if x3_1.length < 5864062014805 then (jointerref07_CopyRows.l0 k1 l0 (x3_1 ++ [(y415 ++ (rd_L12 l0 x4_1))]) (wrap64 (x4_1 + 1))) else (none)) else (none)) else (none)) = some r := by first | (rw [hy415]; with_reducible exact H) | (have H2_ := (Option.bind_some _ _).symm.trans H; rw [hy415]; with_reducible exact H2_) | (have H2_ := (Option.bind_some _ _).symm.trans H; with_reducible exact H2_) | with_reducible exact H | (rw [hy415]; exact H) | exact H
    have Ny415 := Aside0.mk hy415
    clear hy415
    by_cases c3 : 0 ≤ x4_1
    ·rw [if_pos c3] at H
     have c3b0 : decide (0 ≤ x4_1) = true := decide_eq_true c3
     clear c3
     by_cases c4 : y415.length + (rd_L12 l0 x4_1).length < 4398046511104
     ·rw [if_pos c4] at H
      have LMc4 := Aside0.mk c4
      clear c4
      obtain ⟨y419, hy419⟩ : ∃ y_ : List (S64), y_ = (y415 ++ (rd_L12 l0 x4_1)) := ⟨_, rfl⟩
      replace H : (if x3_1.length < 5864062014805 then (jointerref07_CopyRows.l0 k1 l0 (x3_1 ++ [y419]) (wrap64 (x4_1 + 1))) else (none)) = some r := by first | (rw [hy419]; with_reducible exact H) | (have H2_ := (Option.bind_some _ _).symm.trans H; rw [hy419]; with_reducible exact H2_) | (have H2_ := (Option.bind_some _ _).symm.trans H; with_reducible exact H2_) | with_reducible exact H | (rw [hy419]; exact H) | exact H
      have Ny419 := Aside0.mk hy419
      clear hy419
      by_cases c5 : x3_1.length < 5864062014805
      ·rw [if_pos c5] at H
       have LMc5 := Aside0.mk c5
       clear c5
       obtain ⟨y422, hy422⟩ : ∃ y_ : List (List (S64)), y_ = (x3_1 ++ [y419]) := ⟨_, rfl⟩
       replace H : (jointerref07_CopyRows.l0 k1 l0 y422 (wrap64 (x4_1 + 1))) = some r := by first | (rw [hy422]; with_reducible exact H) | (have H2_ := (Option.bind_some _ _).symm.trans H; rw [hy422]; with_reducible exact H2_) | (have H2_ := (Option.bind_some _ _).symm.trans H; with_reducible exact H2_) | with_reducible exact H | (rw [hy422]; exact H) | exact H
       have Ny422 := Aside0.mk hy422
       clear hy422
       have H' := Aside0.mk H
       clear H
       go_wp2_with (first | ((with_reducible refine zaK (N := 12) rfl ?_); refine Kd.R_lit k64 _ 87 ?hg (N := 12) ?hd (xs := ([] : List (S64))) (inner := []) (ok := fun _ => True) (okp := fun _ => True) ?hr ?hp (fun _ hk => hk) trivial (Below.refl _ _) (Nat.le_refl _) (by simp) ?_; (case hd => rfl); (case hg => rfl); (case hr => first | (go_simp; done) | (go_simp; rfl)); (case hp => exact (Reps.none _ _)); intro v416 w6 ho7 hb hg_ hnew_; clear hg_ hnew_; (first | rw [← Ny415.out] at ho7 | (simp only [Int.reduceToNat] at ho7; rw [← Ny415.out] at ho7)); have n0_ := Aside0.mk (Kd.S_elder' (by (with_reducible repeat (first | apply Kd.S_alloc | apply Kd.S_drewN | apply Kd.S_drew)); exact HO_3.out) (Kd.R_base ho7) hb); have n1_ := Aside0.mk (Kd.R_lower ho7 (zal (by repeat (first | (with_reducible first | exact HB.out | apply zac | apply zaa | apply zab) | exact HB.out)))); have n2_ := Aside0.mk (below_step (by repeat (first | (with_reducible first | exact HB.out | apply zac | apply zaa | apply zab) | exact HB.out)) hb); clear HO_3; clear HB; have HO_3 := n0_; have HO417 := n1_; have HB := n2_; clear n0_ n1_ n2_; clear hb ho7; have p418 : 0 ≤ (x4_1 : Int) := of_decide_eq_true (by first | (with_reducible assumption) | assumption); have q418 : x4_1 < (l0.length : Int) := of_decide_eq_true (by first | (with_reducible assumption) | assumption); obtain ⟨ad418, A418_0, c418_0, e418, hx418_0, hl418_0, hi418_0⟩ := zbu HR0.out x4_1 p418 q418; cases e418; replace hx418_0 := (HB.out.cell (World.block_lt_of_cell? w _ hx418_0)).trans hx418_0; have HR418_0 := Aside0.mk hi418_0; have HC418_0 := Aside0.mk hl418_0; clear hi418_0 hl418_0; replace p418 := eq_true p418; replace q418 := eq_true q418) | ((with_reducible refine zam (b := .append) (xs := #[.tmp 12, .tmp 16]) rfl ?_); at_builtin; refine Kd.R_append_rows k64 (w0 := w) w.heap.size rfl (.tmp 12) (.tmp 16) 89 87 (.agg #[(.int .u8 0), (.int .i64 0), (.string ⟨#[]⟩)]) 32 rfl Tryz.underlying89 zkp rfl (by decide) (by omega) v416 y415 (rd_L12 l0 x4_1) _ _ _ (fun _ => True) (fun _ => False) rfl rfl ?aO ?aR (fun _ _ h => h) (fun _ h => h.elim) ?aF ?aB ?aS ?aL ?_; (case aR => repeat (first | exact (Kd.C_below HR418_0.out HB.out) | (with_reducible refine Kd.C_alloc ?_ _) | (with_reducible refine Kd.C_drewN ?_ _) | (with_reducible refine Kd.C_drew ?_))); (case aB => exact (by repeat (first | (with_reducible first | exact HB.out | apply zac | apply zaa | apply zab) | exact HB.out))); (case aF => exact (fun _ _ => trivial)); (case aO => exact (by (with_reducible repeat (first | apply Kd.R_alloc | apply Kd.R_drewN | apply Kd.R_drew)); exact HO417.out)); (case aS => exact (zal (by repeat (first | (with_reducible first | exact HB.out | apply zac | apply zaa | apply zab) | exact HB.out)))); (case aL => have := LMc4.out; omega); intro v420 w8 ho hb hg hat; rw [← Ny419.out] at ho; have n0_ := Aside0.mk (Kd.S_after (ok := (fun _ => True)) (by (with_reducible repeat (first | apply Kd.S_alloc | apply Kd.S_drewN | apply Kd.S_drew)); exact HO_3.out) hg hat); have n1_ := Aside0.mk (hb); have n2_ := Aside0.mk (ho); clear HO_3; clear HB; clear HO417; have HO_3 := n0_; have HB := n1_; have HO421 := n2_; clear n0_ n1_ n2_; clear ho hb hg hat; obtain ⟨Ao10, co10, eo10⟩ := Kd.R_slice HO421.out; subst eo10) | ((with_reducible refine zam (b := .append) (xs := #[.tmp 11, .tmp 18]) rfl ?_); at_builtin; refine Kd.S_append (Kd.slice 87 k64) (w0 := w) w.heap.size rfl (.tmp 11) (.tmp 18) 41 89 (.slice none 0 0) 24 rfl Tryz.underlying41 zg5 rfl (by decide) (by omega) u3 x3_1 y419 [.slice Ao10 y419.length co10] (fun _ => True) (fun k_ => some k_ = (.slice Ao10 y419.length co10 : Value).ownBlock) rfl rfl ?aP (fun k_ hk_ => ((Kd.R_mono (ok' := fun k_ => ((fun _ => True)) k_ ∧ some k_ ≠ (u3 : Value).ownBlock) (Kd.R_apart' (HO421.out) (Kd.S_typed HO_3.out) (by decide)) (fun k_ hk => ⟨trivial, hk.2⟩))).1 k_ hk_.symm) ?aF ?aO ?aB ?aS ?aL ?_; (case aP => exact Kd.M_row (Kd.R_mono (Kd.R_tight rfl (Kd.R_mono (ok' := fun k_ => ((fun _ => True)) k_ ∧ some k_ ≠ (u3 : Value).ownBlock) (Kd.R_apart' (HO421.out) (Kd.S_typed HO_3.out) (by decide)) (fun k_ hk => ⟨trivial, hk.2⟩))) (fun _ h_ => h_))); (case aB => exact (by repeat (first | (with_reducible first | exact HB.out | apply zac | apply zaa | apply zab) | exact HB.out))); (case aF => exact (fun _ _ => trivial)); (case aO => exact (by (with_reducible repeat (first | apply Kd.S_alloc | apply Kd.S_drewN | apply Kd.S_drew)); exact Kd.S_mono HO_3.out (fun k_ hk => ⟨trivial, fun e_ => hk.2 e_⟩))); (case aS => exact (zal (by repeat (first | (with_reducible first | exact HB.out | apply zac | apply zaa | apply zab) | exact HB.out)))); (case aL => have := LMc5.out; omega); intro v423 w9 ho hb hg hat; rw [← Ny422.out] at ho; have n0_ := Aside0.mk (hb); have n1_ := Aside0.mk (ho); clear HB; clear HO_3; clear HO421; have HB := n0_; have HO424 := n1_; clear n0_ n1_; clear ho hb hg hat))
       go_roundg k1
       case measure => have := HK1.out; omega
       case rel => exact ⟨(y422), (wrap64 (x4_1 + 1)), (by first | rfl | (simp; done) | (simp [*]; done)), H', ⟨by have := HK1.out; omega⟩, ⟨by (with_reducible repeat (first | apply Kd.S_alloc | apply Kd.S_drewN | apply Kd.S_drew)); exact HO424.out⟩, ⟨by repeat (first | (with_reducible first | exact HB.out | apply zac | apply zaa | apply zab) | exact HB.out)⟩⟩
      ·rw [if_neg c5] at H
       exact absurd H (by simp)
     ·rw [if_neg c4] at H
      exact absurd H (by simp)
    ·rw [if_neg c3] at H
     exact absurd H (by simp)
   ·rw [if_neg c2] at H
    have c2b0 : decide (x4_1 < (l0.length : Int)) = false := decide_eq_false c2
    clear c2
    obtain rfl := Option.some.inj H
    go_wp2
    go_ret
    exact ⟨_, by first | rfl | (simp [zaq, zar] <;> rfl) | (simp [*, zaq, zar] <;> rfl), by (with_reducible repeat (first | apply Kd.S_alloc | apply Kd.S_drewN | apply Kd.S_drew)); exact HO_3.out, by repeat (first | (with_reducible first | exact HB.out | apply zac | apply zaa | apply zab) | exact HB.out)⟩
end Go.Proofs.YthgfdnffnbclpaaGreatDoor.PAll
namespace Go.Proofs.YthgfdnffnbclpaaGreatDoor.PAll
open Go.RowKit Go.Proofs.YthgfdnffnbclpaaGreatDoorW.PrintWords Go.Proofs.YthgfdnffnbclpaaGreatDoorW.PrintLast Go.Proofs.YthgfdnffnbclpaaGreatDoorW.PrintMore
theorem zhK (l : List (List S64)) (hs : za1 l) : ∀ (d i k : Nat), i + d = l.length → d < k → jointerref07_CopyRows.l0 k l (l.take i) (i : Int) = some l := by
 have hlen := hs.1
 intro d
 induction d with
 | zero =>
  intro i k hi hk
  obtain ⟨k, rfl⟩ : ∃ m, k = m + 1 := ⟨k - 1, by omega⟩
  rw [jointerref07_CopyRows.l0, if_neg (by omega), List.take_of_length_le (by omega)]
 | succ d ih =>
  intro i k hi hk
  obtain ⟨k, rfl⟩ : ∃ m, k = m + 1 := ⟨k - 1, by omega⟩
  have hlt : i < l.length := by omega
  have hr : rd_L12 l (i : Int) = l[i] := by unfold rd_L12; simp [List.getD, hlt]
  have h2 := hs.2 _ (List.getElem_mem hlt)
  rw [jointerref07_CopyRows.l0, if_pos (by omega), Option.bind_some, if_pos (by omega), if_pos (by rw [hr, List.length_nil]; omega), if_pos (by rw [List.length_take]; omega), w1 i (by omega), List.nil_append, hr, ← zay hlt]
  exact ih (i + 1) k (by omega) (by omega)
theorem zdp (A0 : Option Addr) (c0 : Nat) (l : List (List S64)) (w : World) (hr0 : Kd.C (Kd.slice 87 k64) w A0 l.length l) (hc0 : l.length ≤ c0) (hs : za1 l) :
  Calls Tryz.prog 21 #[.slice A0 l.length c0] w fun e w' => ∃ v0_ : Value, e = .returned (v0_) ∧ Kd.S (Kd.slice 87 k64) 89 w' w.heap.size (fun _ => True) v0_ l ∧ Below w.heap.size w w' :=
 jointerref07_CopyRows.calls (l.length + 1) A0 c0 l l w hr0 hc0 (by
  have := zhK l hs l.length 0 (l.length + 1) (by omega) (by omega)
  show jointerref07_CopyRows.l0 _ l [] 0 = some l
  simpa using this)
set_option maxHeartbeats 4000000 in
set_option maxRecDepth 100000 in
theorem zdo (A0 : Option Addr) (c0 : Nat) (l : List (List (List S64))) (w : World) (hr0 : Kd.C (Kd.slice 89 (Kd.slice 87 k64)) w A0 l.length l) (hc0 : l.length ≤ c0) (hs : zaJ l) :
  Calls Tryz.prog 20 #[.slice A0 l.length c0] w fun e w' => ∃ v0_ : Value, e = .returned (v0_) ∧ Kd.S (Kd.slice 89 (Kd.slice 87 k64)) 41 w' w.heap.size (fun _ => True) v0_ l ∧ Below w.heap.size w w' := by
 have HR := Aside0.mk hr0
 have HS := Aside0.mk hs
 have HB0 := Aside0.mk (Below.refl w.heap.size w)
 have hlen := hs.1
 have HO1 : Aside0 (Kd.S (Kd.slice 89 (Kd.slice 87 k64)) 41 w w.heap.size (fun _ => True) (.slice none 0 0) []) := ⟨Kd.S_nil _ _ _ _ _⟩
 clear hr0 hs
 go_enter Tryz.func20, Tryz.ntmps20
 go_wp2
 go_loopg [3, 4] l.length (fun gk v3 v4 wx => ∃ (i : Nat), i + gk = l.length ∧ v4 = .int .i64 i ∧ Aside0 (Kd.S (Kd.slice 89 (Kd.slice 87 k64)) 41 wx w.heap.size (fun _ => True) v3 (l.take i)) ∧ Aside0 (Below w.heap.size w wx))
 case atStart => exact ⟨0, by omega, rfl, by simpa using HO1, HB0⟩
 case round =>
  clear HO1 HB0
  obtain ⟨i, hi, rfl, HO, HB⟩ := hrel
  cases gk with
  | zero =>
   have e : l.take i = l := List.take_of_length_le (by omega)
   have hii : ¬ (i : Int) < (l.length : Int) := by omega
   rw [e] at HO
   go_wp2
   go_ret
   exact ⟨_, rfl, HO.out, HB.out⟩
  | succ gk =>
   have hlt : i < l.length := by omega
   have hii : (i : Int) < (l.length : Int) := by omega
   have hi0 : (0 : Int) ≤ (i : Int) := by omega
   have hrd : rd_L13 l (i : Int) = l[i] := by unfold rd_L13; simp [List.getD, hlt]
   obtain ⟨ad, Ar, cr, hA, hx, hcr, hCr⟩ := zbg HR.out (i : Int) hi0 hii
   cases hA
   rw [hrd] at hx hcr hCr
   rw [Int.toNat_natCast] at hx
   replace hx := (HB.out.cell (World.block_lt_of_cell? w _ hx)).trans hx
   have hrow := HS.out.2 l[i] (List.getElem_mem hlt)
   have HT := Aside0.mk (zay hlt)
   generalize l[i] = row at *
   have HN := Aside0.mk (zdp Ar cr row wr (Kd.C_below hCr HB.out) hcr hrow)
   have hlen2 : (l.take i).length ≤ 2000000 := by rw [List.length_take]; omega
   clear hCr hrow hrd
   generalize l.take i = pre at *
   go_wp2_with (first
    | (go_at_call 21; refine HN.out.mono ?_; rintro e w1 ⟨v, rfl, hv, hb1⟩; obtain ⟨Av, cv, ev⟩ := Kd.S_slice hv; subst ev; have HV := Aside0.mk hv; have HO2 := Aside0.mk (Kd.S_old HO.out hb1); have HB2 := Aside0.mk (below_step HB.out hb1); clear hv hb1)
    | ((with_reducible refine zam (b := .append) (xs := #[.tmp 11, .tmp 17]) rfl ?_); at_builtin; refine Kd.S_append (Kd.slice 89 (Kd.slice 87 k64)) (w0 := w) w.heap.size rfl (.tmp 11) (.tmp 17) 25 41 (.slice none 0 0) 24 rfl Tryz.underlying25 zks rfl (by decide) (by omega) u3 pre row [.slice Av row.length cv] (fun _ => True) (fun k_ => wr.heap.size ≤ k_) rfl rfl ?aP ?aQ (fun _ _ => trivial) ?aO HB2.out HB2.out.size (by omega) ?_; (case aP => exact Kd.M_row (Kd.R_lower (Kd.R_mono (Kd.R_bound (Kd.S_R HV.out)) (fun _ hk => hk.2.1)) HB.out.size)); (case aQ => exact fun k hk => ⟨trivial, fun he => by have := Kd.S_lt HO.out k he.symm; omega⟩); (case aO => exact Kd.S_mono HO2.out (fun k hk => ⟨trivial, by have := hk.2; omega⟩)); intro v1 w2 hv1 hb2 _ _))
   go_roundg gk
   case measure => omega
   case rel => exact ⟨i + 1, by omega, za3 (by omega), ⟨by rw [HT.out]; exact hv1⟩, ⟨hb2⟩⟩
end Go.Proofs.YthgfdnffnbclpaaGreatDoor.PAll
