import Derived.Test.YthgfdnffnbclpaaGreatDoorSQG07
import Derived.Test.YthgfdnffnbclpaaGreatDoorSQG15
import Derived.Lib.SliceRun
import Derived.Test.YthgfdnffnbclpaaGreatDoorSQG03
import Derived.Test.YthgfdnffnbclpaaGreatDoorSQG10
import Derived.Test.YthgfdnffnbclpaaGreatDoorSQG06
set_option linter.unusedVariables false
set_option linter.unusedSimpArgs false
namespace Go.Proofs.YthgfdnffnbclpaaGreatDoor.PAll
open Go.RowKit Go.Proofs.YthgfdnffnbclpaaGreatDoorW.PrintWords Go.Proofs.YthgfdnffnbclpaaGreatDoorW.PrintLast Go.Proofs.YthgfdnffnbclpaaGreatDoorW.PrintMore
set_option maxHeartbeats 4000000 in
set_option maxRecDepth 100000 in
theorem copiedA_walk (A0 : Option Addr) (c0 : Nat) (s : List S49) (w : World) (hr0 : Kd.C k49 w A0 s.length s) (hc0 : s.length ≤ c0) (hs : smallSch s) :
  Calls Tryz.prog 34 #[.slice A0 s.length c0] w fun e w' => ∃ v0_ : Value, e = .returned (v0_) ∧ Kd.S k49a 72 w' w.heap.size (fun _ => True) v0_ s ∧ Below w.heap.size w w' := by
 have HR := Aside0.mk hr0
 have HS := Aside0.mk hs
 have HB0 := Aside0.mk (Below.refl w.heap.size w)
 have hlen := hs.1
 clear hr0 hs
 obtain ⟨i0, hi0, hz0, hz1, hz2⟩ := info_parts (P := Tryz.prog) info72
 obtain ⟨W1, hmk0, hown0, hgr0⟩ := run_make_own w w.heap.size 23 72 i0 _ 5 Tryz.underlying23 hi0 hz0 hz1 .i64 .i64 (s.length + 1) (by rw [hz2]; omega) (by unfold maxLen; omega) (Nat.le_refl _)
 have HB1 : Aside0 (Below w.heap.size w W1) := ⟨HB0.out.grown hgr0 (Nat.le_refl _) (fun j hj => by cases hj)⟩
 have HO1 : Aside0 (Kd.S k49a 72 W1 w.heap.size (fun _ => True) (.slice (some ⟨w.heap.size, 0, none⟩) 0 (s.length + 1)) []) := ⟨⟨fun _ => 0, fun _ _ => trivial, [], hown0, Reps.none _ _⟩⟩
 rw [show ((s.length + 1 : Nat) : Int) = (s.length : Int) + 1 by omega] at hmk0
 clear hown0 hgr0 hi0 hz0 hz1 hz2 HB0
 go_enter Tryz.func34, Tryz.ntmps34
 go_wp2
 go_loopg [3, 13] s.length (fun gk v3 v13 wx => ∃ (i : Nat), i + gk = s.length ∧ v13 = .int .i64 i ∧ Aside0 (Kd.S k49a 72 wx w.heap.size (fun _ => True) v3 (s.take i)) ∧ Aside0 (Below w.heap.size w wx))
 case atStart => exact ⟨0, by omega, rfl, by simpa using HO1, HB1⟩
 case round =>
  clear HO1 HB1 hmk0
  obtain ⟨i, hi, rfl, HO, HB⟩ := hrel
  cases gk with
  | zero =>
   have e : s.take i = s := List.take_of_length_le (by omega)
   have hii : ¬ (i : Int) < (s.length : Int) := by omega
   rw [e] at HO
   go_wp2
   go_ret
   exact ⟨_, rfl, HO.out, HB.out⟩
  | succ gk =>
   have hlt : i < s.length := by omega
   have hii : (i : Int) < (s.length : Int) := by omega
   have hi0 : (0 : Int) ≤ (i : Int) := by omega
   have hrd : rd_T49 s (i : Int) = s[i] := by unfold rd_T49; simp [List.getD, hlt]
   obtain ⟨aa, P1, p1, P2, p2, P3, p3, P4, p4, haa, z0, z1, z2, z3, z4, m1, C1, m2, C2, m3, C3, m4, C4⟩ := at_T49 HR.out (i : Int) hi0 hii
   cases haa
   rw [hrd] at z0 z1 z2 z3 z4 m1 C1 m2 C2 m3 C3 m4 C4
   rw [Int.toNat_natCast] at z0 z1 z2 z3 z4
   replace z0 := (HB.out.cell (World.block_lt_of_cell? w _ z0)).trans z0
   replace z1 := (HB.out.cell (World.block_lt_of_cell? w _ z1)).trans z1
   replace z2 := (HB.out.cell (World.block_lt_of_cell? w _ z2)).trans z2
   replace z3 := (HB.out.cell (World.block_lt_of_cell? w _ z3)).trans z3
   replace z4 := (HB.out.cell (World.block_lt_of_cell? w _ z4)).trans z4
   have hsm := HS.out.2 s[i] (List.getElem_mem hlt)
   have HT := Aside0.mk (take_snoc hlt)
   generalize s[i] = x at *
   have HSM := Aside0.mk hsm
   have HC1 := Aside0.mk C1
   have HC2 := Aside0.mk C2
   have HC3 := Aside0.mk C3
   have HC4 := Aside0.mk C4
   clear hrd hsm C1 C2 C3 C4
   go_upto_region 5 with (fail)
   obtain ⟨B, hB⟩ : ∃ B, B = wr.heap.size := ⟨_, rfl⟩
   obtain ⟨Wa, hWa⟩ : ∃ W, W = wr.alloc (Obj.cells #[Value.string x.f0, Value.slice P1 x.f1.length p1, Value.slice P2 x.f2.length p2, Value.slice P3 x.f3.length p3, Value.slice P4 x.f4.length p4] 72) := ⟨_, rfl⟩
   have hba : Wa.heap[B]? = some (.cells #[Value.string x.f0, Value.slice P1 x.f1.length p1, Value.slice P2 x.f2.length p2, Value.slice P3 x.f3.length p3, Value.slice P4 x.f4.length p4] 72 (0, 0)) := by rw [hWa, hB]; exact Go.Deep.blk_alloc_new wr _
   have hBa : Below w.heap.size w Wa := by rw [hWa]; exact below_step HB.out ((Below.refl _ _).alloc (Nat.le_refl _) _)
   have hBw : w.heap.size ≤ B := by rw [hB]; exact HB.out.size
   have hBr : Below wr.heap.size wr Wa := by rw [hWa]; exact (Below.refl _ _).alloc (Nat.le_refl _) _
   have hBs : B < Wa.heap.size := blk_lt hba
   have hBe : wr.heap.size ≤ B := by omega
   rw [← hWa, ← hB]
   clear hWa hB z0 z1 z2 z3 z4
   have hx1 : Wa.cell? ⟨B, 1, none⟩ = some (Value.slice P1 x.f1.length p1) := (blk_cell hba 1).trans rfl
   have hx1f := blk_frozen hba 1
   have HN1 := Aside0.mk (clCols_walk P1 p1 x.f1 Wa (Kd.C_below HC1.out hBa) m1 (by have := HSM.out.1; omega))
   go_upto_region 6 with (go_at_call 84; refine HN1.out.mono ?_; rintro e w1 ⟨v1, rfl, hv1, hb1⟩; obtain ⟨A5, c5, ev⟩ := Kd.R_slice hv1; subst ev; have hbb := (hb1.block _ (blk_lt hba)).trans hba; have hx1 : w1.cell? ⟨B, 1, none⟩ = some (Value.slice P1 x.f1.length p1) := (blk_cell hbb 1).trans rfl; have hx1f := blk_frozen hbb 1)
   obtain ⟨Wb, hWb⟩ : ∃ W, W = w1.setCell ⟨B, 1, none⟩ (Value.slice A5 x.f1.length c5) := ⟨_, rfl⟩
   have hbB : Wb.heap[B]? = some (.cells #[Value.string x.f0, Value.slice A5 x.f1.length c5, Value.slice P2 x.f2.length p2, Value.slice P3 x.f3.length p3, Value.slice P4 x.f4.length p4] 72 (0, 0)) := by rw [hWb]; exact blk_put hbb 1 _ rfl
   have hBb : Below wr.heap.size wr Wb := by rw [hWb]; exact below_set (below_step hBr hb1) (by omega)
   have HV1 : Aside0 (Kd.R k78 83 Wb Wa.heap.size (fun k => B < k) (Value.slice A5 x.f1.length c5) x.f1) := ⟨by rw [hWb]; exact Kd.R_far (Kd.R_mono (Kd.R_bound hv1) (fun k hk => Nat.lt_of_lt_of_le hBs hk.2.1)) (fun k hk => Nat.ne_of_gt hk) _⟩
   rw [← hWb]
   clear hWb hbb hv1 hb1 hba hx1 hx1f HN1
   have HBw := Aside0.mk (below_step HB.out hBb)
   have hx2 : Wb.cell? ⟨B, 2, none⟩ = some (Value.slice P2 x.f2.length p2) := (blk_cell hbB 2).trans rfl
   have HN2 := Aside0.mk (copyKeys_walk P2 p2 x.f2 Wb (Kd.C_below HC2.out HBw.out) m2 HSM.out.2.1)
   go_upto_region 7 with (go_at_call 85; refine HN2.out.mono ?_; rintro e w2 ⟨v2, rfl, hv2, hb2⟩; obtain ⟨A6, c6, ev⟩ := Kd.S_slice hv2; subst ev; have hbb := (hb2.block _ (blk_lt hbB)).trans hbB; have hx2 : w2.cell? ⟨B, 2, none⟩ = some (Value.slice P2 x.f2.length p2) := (blk_cell hbb 2).trans rfl; have hx2f := blk_frozen hbb 2)
   obtain ⟨Wc, hWc⟩ : ∃ W, W = w2.setCell ⟨B, 2, none⟩ (Value.slice A6 x.f2.length c6) := ⟨_, rfl⟩
   have hbC : Wc.heap[B]? = some (.cells #[Value.string x.f0, Value.slice A5 x.f1.length c5, Value.slice A6 x.f2.length c6, Value.slice P3 x.f3.length p3, Value.slice P4 x.f4.length p4] 72 (0, 0)) := by rw [hWc]; exact blk_put hbb 2 _ rfl
   have hBc : Below wr.heap.size wr Wc := by rw [hWc]; exact below_set (below_step hBb hb2) (by omega)
   have hBb2 : B < Wb.heap.size := blk_lt hbB
   have HV1c : Aside0 (Kd.R k78 83 Wc B (fun k => B < k) (Value.slice A5 x.f1.length c5) x.f1) := ⟨by rw [hWc]; exact Kd.R_lower (Kd.R_far (Kd.R_below HV1.out hb2) (fun k hk => Nat.ne_of_gt hk) _) (Nat.le_of_lt hBs)⟩
   have HV2c : Aside0 (Kd.R (Kd.slice 3 (Kd.int .i64)) 70 Wc B (fun k => B < k) (Value.slice A6 x.f2.length c6) x.f2) := ⟨by rw [hWc]; exact Kd.R_lower (Kd.R_far (Kd.R_mono (Kd.R_bound (Kd.S_R hv2)) (fun k hk => Nat.lt_of_lt_of_le hBb2 hk.2.1)) (fun k hk => Nat.ne_of_gt hk) _) (Nat.le_of_lt hBb2)⟩
   rw [← hWc]
   clear hWc hbb hv2 hb2 hbB hx2 hx2f HN2 HV1 HBw hBb
   have HBw := Aside0.mk (below_step HB.out hBc)
   have hx3 : Wc.cell? ⟨B, 3, none⟩ = some (Value.slice P3 x.f3.length p3) := (blk_cell hbC 3).trans rfl
   obtain ⟨L, hL, hCL0, hLx⟩ := raw75 HC3.out
   have hCL := Kd.C_below hCL0 HBw.out
   have hn3 := clRefs_walk P3 p3 L Wc (by rw [hL]; exact hCL) (by rw [hL]; exact m3) (by have := HSM.out.2.2.1.1; omega)
   rw [hL] at hn3
   have HN3 := Aside0.mk hn3
   have HLX := Aside0.mk hLx
   have HL := Aside0.mk hL
   clear hn3 hLx hCL hCL0 hL
   go_upto_region 8 with (go_at_call 87; refine HN3.out.mono ?_; rintro e w3 ⟨v3, rfl, hv3, hb3⟩; obtain ⟨A7, c7, ev⟩ := Kd.R_slice hv3; rw [HL.out] at ev; subst ev; have hbb := (hb3.block _ (blk_lt hbC)).trans hbC; have hx3 : w3.cell? ⟨B, 3, none⟩ = some (Value.slice P3 x.f3.length p3) := (blk_cell hbb 3).trans rfl; have hx3f := blk_frozen hbb 3)
   obtain ⟨Wd, hWd⟩ : ∃ W, W = w3.setCell ⟨B, 3, none⟩ (Value.slice A7 x.f3.length c7) := ⟨_, rfl⟩
   have hbD : Wd.heap[B]? = some (.cells #[Value.string x.f0, Value.slice A5 x.f1.length c5, Value.slice A6 x.f2.length c6, Value.slice A7 x.f3.length c7, Value.slice P4 x.f4.length p4] 72 (0, 0)) := by rw [hWd]; exact blk_put hbb 3 _ rfl
   have hBd : Below w.heap.size w Wd := by rw [hWd]; exact below_set (below_step HBw.out hb3) (by omega)
   have hBc2 : B < Wc.heap.size := blk_lt hbC
   have HV1d : Aside0 (Kd.R k78 83 Wd B (fun k => B < k ∧ k < Wc.heap.size) (Value.slice A5 x.f1.length c5) x.f1) := ⟨by rw [hWd]; exact Kd.R_far (Kd.R_below (Kd.R_mono (Kd.R_bound HV1c.out) (fun k hk => ⟨hk.1, hk.2.2.1⟩)) hb3) (fun k hk => Nat.ne_of_gt hk.1) _⟩
   have HV2d : Aside0 (Kd.R (Kd.slice 3 (Kd.int .i64)) 70 Wd B (fun k => B < k ∧ k < Wc.heap.size) (Value.slice A6 x.f2.length c6) x.f2) := ⟨by rw [hWd]; exact Kd.R_far (Kd.R_below (Kd.R_mono (Kd.R_bound HV2c.out) (fun k hk => ⟨hk.1, hk.2.2.1⟩)) hb3) (fun k hk => Nat.ne_of_gt hk.1) _⟩
   have HV3d : Aside0 (Kd.R (Kd.raw 3) 75 Wd B (fun k => Wc.heap.size ≤ k ∧ k < Wd.heap.size) (Value.slice A7 x.f3.length c7) L) := ⟨Kd.R_mono (Kd.R_bound (by rw [hWd]; exact Kd.R_lower (Kd.R_far (Kd.R_mono (Kd.R_bound hv3) (fun k hk => (hk.2.1 : Wc.heap.size ≤ k))) (fun k hk => Nat.ne_of_gt (Nat.lt_of_lt_of_le hBc2 hk)) _) (Nat.le_of_lt hBc2))) (fun k hk => ⟨hk.1, hk.2.2.1⟩)⟩
   have HO4 : Aside0 (Kd.S k49a 72 Wd w.heap.size (fun k => k < B) u3 (s.take i)) := ⟨by rw [hWd]; exact Kd.S_far (Kd.S_below (Kd.S_mono (Kd.S_old HO.out hBc) (fun k hk => Nat.lt_of_lt_of_le hk.2 hBe)) hb3) (fun k hk => Nat.ne_of_lt hk) _⟩
   rw [← hWd]
   have HBd := Aside0.mk hBd
   have HBD := Aside0.mk hbD
   have hx3d : Wd.cell? ⟨B, 3, none⟩ = some (Value.slice A7 x.f3.length c7) := (blk_cell hbD 3).trans rfl
   have HLd : Aside0 (∀ j y, x.f3[j]? = some y → (j < 0 → ∃ v', L[j]? = some [v', Value.int .i64 y.f1, Value.int .i64 y.f2] ∧ (Kd.int .i64).R 3 Wd B (fun k => Wd.heap.size ≤ k) v' y.f0) ∧ (0 ≤ j → ∃ A' c', L[j]? = some [Value.slice A' y.f0.length c', Value.int .i64 y.f1, Value.int .i64 y.f2] ∧ y.f0.length ≤ c' ∧ (Kd.int .i64).C w A' y.f0.length y.f0)) := ⟨fun j y hy => ⟨fun h => by omega, fun _ => HLX.out j y hy⟩⟩
   have HBD2 : Aside0 (B < Wd.heap.size) := ⟨blk_lt hbD⟩
   clear hWd hBd hbD HV1c HV2c hv3 hb3 hbb hx3f HN3 HBw hBb2 hBc HLX HO hbC
   go_wp2
   clear hx3d
   go_loopg [32] x.f3.length (fun gk v32 wx => ∃ (m : Nat) (L' : List (List Value)), m + gk = x.f3.length ∧ v32 = .int .i64 m ∧ Aside0 (wx.heap[B]? = some (.cells #[Value.string x.f0, Value.slice A5 x.f1.length c5, Value.slice A6 x.f2.length c6, Value.slice A7 x.f3.length c7, Value.slice P4 x.f4.length p4] 72 (0, 0)))
    ∧ Aside0 (Kd.R k78 83 wx B (fun k => B < k ∧ k < Wc.heap.size) (Value.slice A5 x.f1.length c5) x.f1) ∧ Aside0 (Kd.R (Kd.slice 3 (Kd.int .i64)) 70 wx B (fun k => B < k ∧ k < Wc.heap.size) (Value.slice A6 x.f2.length c6) x.f2)
    ∧ Aside0 (Kd.R (Kd.raw 3) 75 wx B (fun k => Wc.heap.size ≤ k ∧ k < Wd.heap.size) (Value.slice A7 x.f3.length c7) L') ∧ Aside0 (L'.length = x.f3.length)
    ∧ Aside0 (∀ j y, x.f3[j]? = some y → (j < m → ∃ v', L'[j]? = some [v', Value.int .i64 y.f1, Value.int .i64 y.f2] ∧ (Kd.int .i64).R 3 wx B (fun k => Wd.heap.size ≤ k) v' y.f0) ∧ (m ≤ j → ∃ A' c', L'[j]? = some [Value.slice A' y.f0.length c', Value.int .i64 y.f1, Value.int .i64 y.f2] ∧ y.f0.length ≤ c' ∧ (Kd.int .i64).C w A' y.f0.length y.f0))
    ∧ Aside0 (Kd.S k49a 72 wx w.heap.size (fun k => k < B) u3 (s.take i)) ∧ Aside0 (Below w.heap.size w wx) ∧ Aside0 (Wd.heap.size ≤ wx.heap.size))
   case atStart => exact ⟨0, L, by omega, rfl, HBD, HV1d, HV2d, HV3d, HL, HLd, HO4, HBd, ⟨Nat.le_refl _⟩⟩
   case round =>
    clear HBD HV1d HV2d HV3d HL HLd HO4 HBd
    obtain ⟨m, L', hm, rfl, HBX, HV1, HV2, HV3, HL, HLX, HO, HBW, HSZ⟩ := hrel
    cases gk with
    | succ gi =>
     have hlt : m < x.f3.length := by omega
     have hmi : (m : Int) < (x.f3.length : Int) := by omega
     have hm0 : (0 : Int) ≤ (m : Int) := by omega
     obtain ⟨G, cap, ev, hg1, hg2, gcells, hgc⟩ := Kd.R_form HV3.out (by rw [HL.out]; omega)
     rw [HL.out] at ev
     simp only [Value.slice.injEq, true_and] at ev
     obtain ⟨eA, eC⟩ := ev
     subst eA
     obtain ⟨hge, hgs⟩ : Wc.heap.size ≤ G ∧ G < Wd.heap.size := HV3.out.1 G (by simp [Value.ownBlock])
     obtain ⟨A', c', hLm, hcl, hC'⟩ := (HLX.out m x.f3[m] (List.getElem?_eq_getElem hlt)).2 (Nat.le_refl _)
     obtain ⟨cc, hccl, hccM, hcc⟩ := Kd.R_getA HV3.out ([] : List Value) (m : Int) hm0 hmi
     have hgd : L'.getD (m : Int).toNat [] = [Value.slice A' x.f3[m].f0.length c', Value.int .i64 x.f3[m].f1, Value.int .i64 x.f3[m].f2] := by rw [Int.toNat_natCast, List.getD_eq_getElem?_getD, hLm]; rfl
     rw [hgd] at hccM
     have hce : cc = [Value.slice A' x.f3[m].f0.length c', Value.int .i64 x.f3[m].f1, Value.int .i64 x.f3[m].f2] := hccM.1
     subst hce
     have hcell0 := hcc 0 _ rfl
     have hcell : wr.cell? ⟨G, m * 3, none⟩ = some (Value.slice A' x.f3[m].f0.length c') := by rw [add_plain] at hcell0; simpa [Kd.raw] using hcell0
     have hbox : wr.cell? ⟨B, 3, none⟩ = some (Value.slice (some ⟨G, 0, none⟩) x.f3.length c7) := (blk_cell HBX.out 3).trans rfl
     have hrow := (HSM.out.2.2.1.2 x.f3[m] (List.getElem_mem hlt))
     have hBs2 : Wc.heap.size ≤ wr.drew.heap.size := by show Wc.heap.size ≤ wr.heap.size; omega
     have hfit : m * 3 + 1 ≤ gcells.size := by
      have h2 := (blk_cell hgc (m * 3)).symm.trans hcell
      have := (Array.getElem?_eq_some_iff.1 h2).1
      omega
     have hyj : x.f3[m]? = some x.f3[m] := List.getElem?_eq_getElem hlt
     generalize x.f3[m] = y at *
     have HN : Aside0 (Calls Tryz.prog 86 #[.slice A' y.f0.length c'] wr.drew fun e w' => ∃ v0_ : Value, e = .returned (v0_) ∧ Kd.R (Kd.int .i64) 3 w' wr.drew.heap.size (fun _ => True) v0_ y.f0 ∧ Below wr.drew.heap.size wr.drew w') := ⟨clInts_walk A' c' y.f0 wr.drew (Kd.C_below hC' (below_drew1 HBW.out)) hcl (by omega)⟩
     have hd : wr.drew.cell? ⟨B, 3, none⟩ = some (Value.slice (some ⟨G, 0, none⟩) x.f3.length c7) ∧ wr.drew.cell? ⟨G, m * 3, none⟩ = some (Value.slice A' y.f0.length c') := ⟨hbox, hcell⟩
     have HCC : Aside0 (∀ j u, [Value.slice A' y.f0.length c', Value.int .i64 y.f1, Value.int .i64 y.f2][j]? = some u → wr.drew.cell? ⟨G, m * 3 + j, none⟩ = some u) := ⟨fun j u hj => by have := hcc j u hj; rw [add_plain, Int.toNat_natCast] at this; simpa [Kd.raw] using this⟩
     have HBXd : Aside0 (wr.drew.heap[B]? = some (.cells #[Value.string x.f0, Value.slice A5 x.f1.length c5, Value.slice A6 x.f2.length c6, Value.slice (some ⟨G, 0, none⟩) x.f3.length c7, Value.slice P4 x.f4.length p4] 72 (0, 0))) := ⟨HBX.out⟩
     have HGC : Aside0 (wr.drew.heap[G]? = some (.cells gcells 75 (0, 0))) := ⟨hgc⟩
     have HGS : Aside0 (Wc.heap.size ≤ G ∧ G < Wd.heap.size ∧ Wd.heap.size ≤ wr.drew.heap.size) := ⟨hge, hgs, HSZ.out⟩
     have HV1d := Aside0.mk (Kd.R_drew HV1.out)
     have HV2d := Aside0.mk (Kd.R_drew HV2.out)
     have HV3d := Aside0.mk (Kd.R_drew HV3.out)
     have HOd := Aside0.mk (Kd.S_drew HO.out)
     have HBWd := Aside0.mk (below_drew1 HBW.out)
     have HLXd : Aside0 (∀ j z, x.f3[j]? = some z → (j < m → ∃ v', L'[j]? = some [v', Value.int .i64 z.f1, Value.int .i64 z.f2] ∧ (Kd.int .i64).R 3 wr.drew B (fun k => Wd.heap.size ≤ k) v' z.f0) ∧ (m ≤ j → ∃ A' c', L'[j]? = some [Value.slice A' z.f0.length c', Value.int .i64 z.f1, Value.int .i64 z.f2] ∧ z.f0.length ≤ c' ∧ (Kd.int .i64).C w A' z.f0.length z.f0)) := ⟨fun j z hz => ⟨fun h => by obtain ⟨v', h1, h2⟩ := (HLX.out j z hz).1 h; exact ⟨v', h1, Kd.R_drew h2⟩, (HLX.out j z hz).2⟩⟩
     have HYJ := Aside0.mk hyj
     have hBc3 : Aside0 (B < Wc.heap.size) := ⟨hBc2⟩
     clear hbox hcell hcell0 hcc hccM hccl hgd hLm hgc hge hgs hrow hBs2 HV1 HV2 HV3 HO HBW HLX HBX HSZ hC' hyj hBc2 hg1 hg2
     go_wp2
     refine start_ (n := 13) (S := fun W => W.cell? ⟨B, 3, none⟩ = some (Value.slice (some ⟨G, 0, none⟩) x.f3.length c7) ∧ W.cell? ⟨G, m * 3, none⟩ = some (Value.slice A' y.f0.length c')) (ds := [12]) #[false, false, false, false, false, false, false, false, false, false, false, false, false] (by kernel_rfl) rfl rfl hd (fun hHeld => ?_)
     clear hd
     generalize wr.drew = W1 at *
     refine pure_ (i := 0) (N := some 35) (v := ?_) (a' := ?_) #[true, false, false, false, false, false, false, false, false, false, false, false, false] rfl rfl (by kernel_rfl) (fun _ _ _ h => h) (Or.inl ⟨by rfl, ?_⟩) ?_ ?_
     rotate_left
     ·intro w'; go_simp; with_reducible rfl
     rotate_left
     ·simp only [Act.put, List.setIfInBounds_toArray, List.set_cons_zero, List.set_cons_succ, i64_w, i32_w]; rfl
     refine take_ (i := 1) (N := some 36) (v := ?_) (a' := ?_) #[true, true, false, false, false, false, false, false, false, false, false, false, false] rfl rfl (by kernel_rfl) (fun _ _ _ h => h) (Or.inl ⟨by rfl, ?_⟩) hHeld ?_ ?_
     rotate_left
     ·rintro w' ⟨s0, s1⟩; go_simp; with_reducible rfl
     rotate_left
     ·simp only [Act.put, List.setIfInBounds_toArray, List.set_cons_zero, List.set_cons_succ, i64_w, i32_w]; rfl
     refine pure_ (i := 2) (N := some 37) (v := ?_) (a' := ?_) #[true, true, true, false, false, false, false, false, false, false, false, false, false] rfl rfl (by kernel_rfl) (fun _ _ _ h => h) (Or.inl ⟨by rfl, ?_⟩) ?_ ?_
     rotate_left
     ·intro w'; go_simp; with_reducible rfl
     rotate_left
     ·simp only [Act.put, List.setIfInBounds_toArray, List.set_cons_zero, List.set_cons_succ, i64_w, i32_w]; rfl
     refine pure_ (i := 3) (N := some 38) (v := ?_) (a' := ?_) #[true, true, true, true, false, false, false, false, false, false, false, false, false] rfl rfl (by kernel_rfl) (fun _ _ _ h => h) (Or.inl ⟨by rfl, ?_⟩) ?_ ?_
     rotate_left
     ·intro w'; go_simp; with_reducible rfl
     rotate_left
     ·simp only [Act.put, List.setIfInBounds_toArray, List.set_cons_zero, List.set_cons_succ, i64_w, i32_w]; rfl
     refine take_ (i := 4) (N := some 39) (v := ?_) (a' := ?_) #[true, true, true, true, true, false, false, false, false, false, false, false, false] rfl rfl (by kernel_rfl) (fun _ _ _ h => h) (Or.inl ⟨by rfl, ?_⟩) hHeld ?_ ?_
     rotate_left
     ·rintro w' ⟨s0, s1⟩; go_simp; with_reducible rfl
     rotate_left
     ·simp only [Act.put, List.setIfInBounds_toArray, List.set_cons_zero, List.set_cons_succ, i64_w, i32_w]; rfl
     refine pure_ (i := 5) (N := some 40) (v := ?_) (a' := ?_) #[true, true, true, true, true, true, false, false, false, false, false, false, false] rfl rfl (by kernel_rfl) (fun _ _ _ h => h) (Or.inl ⟨by rfl, ?_⟩) ?_ ?_
     rotate_left
     ·intro w'; go_simp; with_reducible rfl
     rotate_left
     ·simp only [Act.put, List.setIfInBounds_toArray, List.set_cons_zero, List.set_cons_succ, i64_w, i32_w]; rfl
     refine pure_ (i := 6) (N := some 41) (v := ?_) (a' := ?_) #[true, true, true, true, true, true, true, false, false, false, false, false, false] rfl rfl (by kernel_rfl) (fun _ _ _ h => h) (Or.inl ⟨by rfl, ?_⟩) ?_ ?_
     rotate_left
     ·intro w'; go_simp; with_reducible rfl
     rotate_left
     ·simp only [Act.put, List.setIfInBounds_toArray, List.set_cons_zero, List.set_cons_succ, i64_w, i32_w]; rfl
     refine pure_ (i := 7) (N := some 42) (v := ?_) (a' := ?_) #[true, true, true, true, true, true, true, true, false, false, false, false, false] rfl rfl (by kernel_rfl) (fun _ _ _ h => h) (Or.inl ⟨by rfl, ?_⟩) ?_ ?_
     rotate_left
     ·intro w'; go_simp; with_reducible rfl
     rotate_left
     ·simp only [Act.put, List.setIfInBounds_toArray, List.set_cons_zero, List.set_cons_succ, i64_w, i32_w]; rfl
     refine take_ (i := 8) (N := some 43) (v := ?_) (a' := ?_) #[true, true, true, true, true, true, true, true, true, false, false, false, false] rfl rfl (by kernel_rfl) (fun _ _ _ h => h) (Or.inl ⟨by rfl, ?_⟩) hHeld ?_ ?_
     rotate_left
     ·rintro w' ⟨s0, s1⟩; go_simp; with_reducible rfl
     rotate_left
     ·simp only [Act.put, List.setIfInBounds_toArray, List.set_cons_zero, List.set_cons_succ, i64_w, i32_w]; rfl
     refine one_ (i := 9) (N := some 44) #[true, true, true, true, true, true, true, true, true, true, false, false, false] rfl rfl (by kernel_rfl) (by decide) (fun K hK => ?_)
     refine goes_ Tryz.func86 (by kernel_rfl) rfl #[.slice A' y.f0.length c'] (by rfl) rfl rfl (by (try simp only [List.map_toArray, List.map_cons, List.map_nil]); first | done | rfl) ?_
     refine HN.out.mono ?_
     rintro e W2 ⟨v9, rfl, hv9, hb9⟩
     obtain ⟨A9, c9, e9⟩ := Kd.R_slice hv9
     subst e9
     refine ⟨_, rfl, ?_⟩
     refine hK.out _ _ ⟨(hb9.cell (World.block_lt_of_cell? W1 _ hHeld.1)).trans hHeld.1, (hb9.cell (World.block_lt_of_cell? W1 _ hHeld.2)).trans hHeld.2⟩ (fun hHeld2 => ?_)
     clear hK K
     refine norm_ (a' := ?_) ?_ ?_
     rotate_left
     ·show Act.put _ (some 44) _ = _; simp only [Act.put, List.setIfInBounds_toArray, List.set_cons_zero, List.set_cons_succ, i64_w, i32_w]; rfl
     refine pure_ (i := 10) (N := some 45) (v := ?_) (a' := ?_) #[true, true, true, true, true, true, true, true, true, true, true, false, false] rfl rfl (by kernel_rfl) (fun _ _ _ h => h) (Or.inl ⟨by rfl, ?_⟩) ?_ ?_
     rotate_left
     ·intro w'; go_simp; with_reducible rfl
     rotate_left
     ·simp only [Act.put, List.setIfInBounds_toArray, List.set_cons_zero, List.set_cons_succ, i64_w, i32_w]; rfl
     refine pure_ (i := 11) (N := some 46) (v := ?_) (a' := ?_) #[true, true, true, true, true, true, true, true, true, true, true, true, false] rfl rfl (by kernel_rfl) (fun _ _ _ h => h) (Or.inl ⟨by rfl, ?_⟩) ?_ ?_
     rotate_left
     ·intro w'; go_simp; with_reducible rfl
     rotate_left
     ·simp only [Act.put, List.setIfInBounds_toArray, List.set_cons_zero, List.set_cons_succ, i64_w, i32_w]; rfl
     refine last_ (i := 12) (N := none) #[true, true, true, true, true, true, true, true, true, true, true, true, true] rfl rfl (by kernel_rfl) (by decide) (fun K hK => ?_)
     have hgc2 : W2.heap[G]? = some (.cells gcells 75 (0, 0)) := (hb9.block G (blk_lt HGC.out)).trans HGC.out
     refine step_store_run (by rfl) 70 (.tmp 46) (.tmp 44) rfl rfl rfl rfl (run_store_run 70 (.slice A9 y.f0.length c9) [.slice A9 y.f0.length c9] hgc2 rfl (by kernel_rfl) (by simpa using hfit) (by simp [Value.oneCell'])) ?_
     refine hK.out _ _ ?_
     clear hK K
     refine done_ (by kernel_rfl) ?_
     obtain ⟨g1, g2, g3⟩ := HGS.out
     obtain ⟨hR3, hgr⟩ := Kd.R_seg (Kd.R_below HV3d.out hb9) (m : Int) hm0 hmi (c := [Value.slice A' y.f0.length c', Value.int .i64 y.f1, Value.int .i64 y.f2]) (seg := [Value.slice A9 y.f0.length c9]) (j := 0) rfl (fun j u hj => by
      have h := HCC.out j u hj
      have := (hb9.cell (World.block_lt_of_cell? W1 _ h)).trans h
      simpa [Kd.raw] using this) (by show 0 + 1 ≤ 3; omega) (x' := [Value.slice A9 y.f0.length c9, Value.int .i64 y.f1, Value.int .i64 y.f2]) (okp := fun _ => False) ⟨rfl, rfl, by simp [Value.oneCell']⟩ (fun _ h => h.elim)
     have hoff : (m : Int).toNat * (Kd.raw 3).sz + 0 = m * 3 := by simp [Kd.raw]
     rw [hoff] at hR3 hgr
     have hWz : Below w.heap.size w (W2.setCells G (m * 3) [Value.slice A9 y.f0.length c9]) := Go.below_setCells (by have := hBc3.out; omega) _ _ _ (below_step HBWd.out hb9)
     have hnG : ∀ k, k < Wc.heap.size → some k ≠ some G := fun k hk he => by injection he with he; omega
     have hBXz := (hgr.block B (Nat.lt_of_lt_of_le (blk_lt HBXd.out) hb9.size) (hnG B hBc3.out)).trans ((hb9.block B (blk_lt HBXd.out)).trans HBXd.out)
     have hV1z := Kd.R_grown (Kd.R_below HV1d.out hb9) hgr (fun k hk => hnG k hk.2)
     have hV2z := Kd.R_grown (Kd.R_below HV2d.out hb9) hgr (fun k hk => hnG k hk.2)
     have hOz := Kd.S_grown (Kd.S_below HOd.out hb9) hgr (fun k hk => hnG k (Nat.lt_trans hk hBc3.out))
     have hnew : Kd.R (Kd.int .i64) 3 (W2.setCells G (m * 3) [Value.slice A9 y.f0.length c9]) B (fun k => Wd.heap.size ≤ k) (.slice A9 y.f0.length c9) y.f0 := Kd.R_grown (Kd.R_lower (Kd.R_mono (Kd.R_bound hv9) (fun k hk => Nat.le_trans g3 hk.2.1)) (by have := hBc3.out; omega)) hgr (fun k hk he => by injection he with he; omega)
     have HSZz : Aside0 (Wd.heap.size ≤ (W2.setCells G (m * 3) [Value.slice A9 y.f0.length c9]).heap.size) := ⟨Nat.le_trans g3 (Nat.le_trans hb9.size hgr.size)⟩
     have hLz : Aside0 (∀ j z, x.f3[j]? = some z → (j < m + 1 → ∃ v', (L'.set m [Value.slice A9 y.f0.length c9, Value.int .i64 y.f1, Value.int .i64 y.f2])[j]? = some [v', Value.int .i64 z.f1, Value.int .i64 z.f2] ∧ (Kd.int .i64).R 3 (W2.setCells G (m * 3) [Value.slice A9 y.f0.length c9]) B (fun k => Wd.heap.size ≤ k) v' z.f0) ∧ (m + 1 ≤ j → ∃ A' c', (L'.set m [Value.slice A9 y.f0.length c9, Value.int .i64 y.f1, Value.int .i64 y.f2])[j]? = some [Value.slice A' z.f0.length c', Value.int .i64 z.f1, Value.int .i64 z.f2] ∧ z.f0.length ≤ c' ∧ (Kd.int .i64).C w A' z.f0.length z.f0)) := ⟨fun j z hz => by
      have hlL : m < L'.length := by rw [HL.out]; omega
      by_cases e : j = m
      ·subst e
       rw [HYJ.out] at hz
       obtain rfl := Option.some.inj hz
       exact ⟨fun _ => ⟨_, List.getElem?_set_self hlL, hnew⟩, fun h => by omega⟩
      ·rw [List.getElem?_set_ne (Ne.symm e)]
       refine ⟨fun h => ?_, fun h => (HLXd.out j z hz).2 (by omega)⟩
       obtain ⟨v', h1, h2⟩ := (HLXd.out j z hz).1 (by omega)
       exact ⟨v', h1, Kd.R_grown (Kd.R_below h2 hb9) hgr (fun k hk he => by injection he with he; omega)⟩⟩
     rw [Int.toNat_natCast] at hR3
     have HLz : Aside0 ((L'.set m [Value.slice A9 y.f0.length c9, Value.int .i64 y.f1, Value.int .i64 y.f2]).length = x.f3.length) := ⟨by rw [List.length_set]; exact HL.out⟩
     generalize (W2.setCells G (m * 3) [Value.slice A9 y.f0.length c9]) = Wz at *
     have HBXz := Aside0.mk hBXz
     have HV1z := Aside0.mk hV1z
     have HV2z := Aside0.mk hV2z
     have HV3z := Aside0.mk hR3
     have HOz := Aside0.mk hOz
     have HWz := Aside0.mk hWz
     clear hBXz hV1z hV2z hR3 hOz hWz hnew hgr hnG hv9 hb9 hgc2 hHeld hHeld2 HV1d HV2d HV3d HOd HBWd HLXd HYJ HCC HBXd HGC HGS HN g1 g2 g3 hoff hfit HL
     go_wp2
     go_roundg gi
     case measure => omega
     case rel => exact ⟨m + 1, _, by omega, by first | rfl | (simp; done) | (have := HSM.out.2.2.1.1; simp; unfold wrap64; omega), HBXz, HV1z, HV2z, HV3z, HLz, hLz, HOz, HWz, HSZz⟩
    | zero =>
     have hmi : ¬ (m : Int) < (x.f3.length : Int) := by omega
     have hR3 : k75.R 75 wr B (fun k => B < k) (.slice A7 x.f3.length c7) x.f3 := raw_done (Kd.R_mono HV3.out (fun k hk => Nat.lt_of_lt_of_le hBc2 hk.1)) HL.out (fun j y hy => by
      have hj : j < m := by have := (List.getElem?_eq_some_iff.1 hy).1; omega
      obtain ⟨v', h1, h2⟩ := (HLX.out j y hy).1 hj
      exact ⟨v', h1, Kd.R_mono h2 (fun k hk => ⟨Nat.lt_of_lt_of_le HBD2.out hk, fun he => by have := (HV3.out.1 k he.symm).2; omega⟩)⟩)
     have hx4 : wr.cell? ⟨B, 4, none⟩ = some (Value.slice P4 x.f4.length p4) := (blk_cell HBX.out 4).trans rfl
     have HN4 := Aside0.mk (clInts_walk P4 p4 x.f4 wr (Kd.C_below HC4.out HBW.out) m4 (by have := HSM.out.2.2.2; omega))
     have HR3 := Aside0.mk hR3
     clear hR3 HV3 HL HLX
     go_upto_region 14 with (go_at_call 86; refine HN4.out.mono ?_; rintro e w4 ⟨v4, rfl, hv4, hb4⟩; obtain ⟨A8, c8, ev⟩ := Kd.R_slice hv4; subst ev; have hbb := (hb4.block _ (blk_lt HBX.out)).trans HBX.out; have hx4 : w4.cell? ⟨B, 4, none⟩ = some (Value.slice P4 x.f4.length p4) := (blk_cell hbb 4).trans rfl; have hx4f := blk_frozen hbb 4)
     obtain ⟨We, hWe⟩ : ∃ W, W = w4.setCell ⟨B, 4, none⟩ (Value.slice A8 x.f4.length c8) := ⟨_, rfl⟩
     have hBs3 : B < wr.heap.size := blk_lt HBX.out
     have hbE : We.heap[B]? = some (.cells #[Value.string x.f0, Value.slice A5 x.f1.length c5, Value.slice A6 x.f2.length c6, Value.slice A7 x.f3.length c7, Value.slice A8 x.f4.length c8] 72 (0, 0)) := by rw [hWe]; exact blk_put hbb 4 _ rfl
     have hBe2 : Below w.heap.size w We := by rw [hWe]; exact below_set (below_step HBW.out hb4) (by omega)
     have h1e : Kd.R k78 83 We B (fun k => B < k ∧ k < wr.heap.size) (Value.slice A5 x.f1.length c5) x.f1 := by rw [hWe]; exact Kd.R_far (Kd.R_below (Kd.R_mono (Kd.R_bound HV1.out) (fun k hk => ⟨hk.1.1, hk.2.2.1⟩)) hb4) (fun k hk => Nat.ne_of_gt hk.1) _
     have h2e : Kd.R (Kd.slice 3 (Kd.int .i64)) 70 We B (fun k => B < k ∧ k < wr.heap.size) (Value.slice A6 x.f2.length c6) x.f2 := by rw [hWe]; exact Kd.R_far (Kd.R_below (Kd.R_mono (Kd.R_bound HV2.out) (fun k hk => ⟨hk.1.1, hk.2.2.1⟩)) hb4) (fun k hk => Nat.ne_of_gt hk.1) _
     have h3e : k75.R 75 We B (fun k => B < k ∧ k < wr.heap.size) (Value.slice A7 x.f3.length c7) x.f3 := by rw [hWe]; exact Kd.R_far (Kd.R_below (Kd.R_mono (Kd.R_bound HR3.out) (fun k hk => ⟨hk.1, hk.2.2.1⟩)) hb4) (fun k hk => Nat.ne_of_gt hk.1) _
     have h4e : Kd.R (Kd.int .i64) 3 We B (fun k => wr.heap.size ≤ k) (Value.slice A8 x.f4.length c8) x.f4 := by rw [hWe]; exact Kd.R_lower (Kd.R_far (Kd.R_mono (Kd.R_bound hv4) (fun k hk => hk.2.1)) (fun k hk => Nat.ne_of_gt (Nat.lt_of_lt_of_le hBs3 hk)) _) (Nat.le_of_lt hBs3)
     have hOe : Kd.S k49a 72 We w.heap.size (fun k => k < B) u3 (s.take i) := by rw [hWe]; exact Kd.S_far (Kd.S_below HO.out hb4) (fun k hk => Nat.ne_of_lt hk) _
     have hM : MA We w.heap.size (fun k => B < k) x [Value.string x.f0, Value.slice A5 x.f1.length c5, Value.slice A6 x.f2.length c6, Value.slice A7 x.f3.length c7, Value.slice A8 x.f4.length c8] := ⟨fun k => wr.heap.size ≤ k, _, _, _, _, rfl, Kd.R_lower (Kd.R_mono h1e fun k hk => ⟨hk.1, Nat.not_le_of_lt hk.2⟩) hBw, Kd.R_lower (Kd.R_mono h2e fun k hk => ⟨hk.1, Nat.not_le_of_lt hk.2⟩) hBw, Kd.R_lower (Kd.R_mono h3e fun k hk => ⟨hk.1, Nat.not_le_of_lt hk.2⟩) hBw, Kd.R_lower (Kd.R_mono h4e fun k hk => ⟨Nat.lt_of_lt_of_le hBs3 hk, hk⟩) hBw⟩
     have HM := Aside0.mk hM
     have HOE := Aside0.mk hOe
     have HBE := Aside0.mk hBe2
     have he0 : We.cell? ⟨B, 0, none⟩ = some (Value.string x.f0) := (blk_cell hbE 0).trans rfl
     have he1 : We.cell? ⟨B, 1, none⟩ = some (Value.slice A5 x.f1.length c5) := (blk_cell hbE 1).trans rfl
     have he2 : We.cell? ⟨B, 2, none⟩ = some (Value.slice A6 x.f2.length c6) := (blk_cell hbE 2).trans rfl
     have he3 : We.cell? ⟨B, 3, none⟩ = some (Value.slice A7 x.f3.length c7) := (blk_cell hbE 3).trans rfl
     have he4 : We.cell? ⟨B, 4, none⟩ = some (Value.slice A8 x.f4.length c8) := (blk_cell hbE 4).trans rfl
     have hlen2 : (s.take i).length ≤ 2000000 := by rw [List.length_take]; omega
     have HTI := HT
     rw [← hWe]
     clear hM hWe hbb hv4 hb4 hx4 hx4f hbE h1e h2e h3e h4e hOe hBe2 HBX HV1 HV2 HR3 HO HBW HN4 HSZ
     generalize s.take i = pre at *
     go_wp2_with ((with_reducible refine gate_builtin (b := .append) (xs := #[.tmp 52, .tmp 54]) rfl ?_); at_builtin; refine Kd.S_append k49a (w0 := w) w.heap.size rfl (.tmp 52) (.tmp 54) 23 72 (.agg #[(.string ⟨#[]⟩), (.slice none 0 0), (.slice none 0 0), (.slice none 0 0), (.slice none 0 0)]) 112 rfl Tryz.underlying23 info72 rfl (by decide) (by omega) u3 pre x [Value.string x.f0, Value.slice A5 x.f1.length c5, Value.slice A6 x.f2.length c6, Value.slice A7 x.f3.length c7, Value.slice A8 x.f4.length c8] (fun _ => True) (fun k_ => B < k_) rfl rfl HM.out ?aQ (fun _ _ => trivial) ?aO HBE.out HBE.out.size (by omega) ?_; (case aQ => exact fun k hk => ⟨trivial, fun he => by have h9 := HOE.out; have := (Kd.S_R h9).1 k he.symm; omega⟩); (case aO => exact Kd.S_mono HOE.out (fun k hk => ⟨trivial, fun h9 => by omega⟩)); intro v1 w2 hv1 hb2 _ _)
     go_roundg gk
     case measure => omega
     case rel => exact ⟨i + 1, by omega, by first | rfl | (simp; done) | (simp; unfold wrap64; omega), ⟨by rw [HT.out]; exact hv1⟩, ⟨hb2⟩⟩
theorem copied_walk (A0 : Option Addr) (c0 : Nat) (s : List S49) (w : World) (hr0 : Kd.C k49 w A0 s.length s) (hc0 : s.length ≤ c0) (hs : smallSch s) :
  Calls Tryz.prog 34 #[.slice A0 s.length c0] w fun e w' => ∃ v0_ : Value, e = .returned (v0_) ∧ Kd.S k49 72 w' w.heap.size (fun _ => True) v0_ s ∧ Below w.heap.size w w' :=
 (copiedA_walk A0 c0 s w hr0 hc0 hs).mono fun e w' ⟨v, he, hS, hb⟩ => ⟨v, he, S_a hS, hb⟩
theorem R_clear {α : Type} {d : Kd α} {e : Nat} {W : World} {base : Nat} {ok : Nat → Prop} {xs : List α} {g n c : Nat} (h : d.R e W base ok (.slice (some ⟨g, 0, none⟩) n c) xs) (o : Nat) (ho : n * d.sz ≤ o) (seg : List Value) (hfit : o + seg.length ≤ c * d.sz) :
  d.R e (W.setCells g o seg) base ok (.slice (some ⟨g, 0, none⟩) n c) xs ∧ W.grownBy (W.setCells g o seg) (some g) := by
 obtain ⟨hn, hnc, _⟩ := Kd.R_reads' h
 obtain ⟨hok, inner, ⟨ho1, ho2⟩, hr⟩ := h
 rcases ho2 with ⟨hv, _⟩ | ⟨g', cap', cur, hv, hb, hh, hnc', hcm, hcs, ht⟩
 ·cases hv
 injection hv with ha _ hc
 injection ha with ha
 injection ha with hg
 subst hg; subst hc
 obtain ⟨cur', h3, h4, h5⟩ := setCells_row seg o W cur hh (by rw [hcs]; exact hfit)
 obtain ⟨s1, s2, s3, s4⟩ := setCells_same g seg o W
 have hfar : ∀ k, k ≠ g → (W.setCells g o seg).heap[k]? = W.heap[k]? := fun k hk => setCells_far seg _ k hk
 have hgo : some g = (Value.slice (some ⟨g, 0, none⟩) n c).ownBlock := by simp [Value.ownBlock]
 have hol : o ≤ cur.toList.length := by rw [Array.length_toList, hcs]; omega
 refine ⟨⟨hok, inner, ⟨ho1, .inr ⟨g, c, cur', by rw [hn], hb, h3, by rw [← hn]; exact hnc, hcm, by rw [h4, hcs], ?_⟩⟩, hr.imp_ fun p cs hp => Kd.M_step hp (fun k hk _ => hfar k (fun he => hk.2 (by rw [he]; exact hgo)))⟩, ⟨s1, s2, s3, by rw [s4]; exact Nat.le_refl _, fun k _ hk => hfar k (fun he => hk (by rw [he]))⟩⟩
 rw [← ht, h5, List.append_assoc, List.take_append_of_le_length (by rw [List.length_take]; rw [← hn]; omega), List.take_take, Nat.min_eq_left (by rw [← hn]; exact ho)]
theorem S_clear {α : Type} {d : Kd α} {e : Nat} {W : World} {base : Nat} {ok : Nat → Prop} {xs : List α} {g n c : Nat} (h : Kd.S d e W base ok (.slice (some ⟨g, 0, none⟩) n c) xs) (o : Nat) (ho : n * d.sz ≤ o) (seg : List Value) (hfit : o + seg.length ≤ c * d.sz) :
  Kd.S d e (W.setCells g o seg) base ok (.slice (some ⟨g, 0, none⟩) n c) xs ∧ W.grownBy (W.setCells g o seg) (some g) := by
 obtain ⟨f, hR⟩ := h
 have h2 := R_clear (d := Kd.tag f d) hR o ho seg hfit
 exact ⟨⟨f, h2.1⟩, h2.2⟩
theorem clear_one {P : Program} (w : World) (t e ty : TypeId) (z : Value) (seg : List Value) (ht : P.underlying t = some (.slice e)) (hv : ∀ w, (zeroValue e).run P w = .ok z w) (hz : (Builtin.zeroCells z.cells 1).toList = seg) (h1 : ∀ q ∈ seg, q.oneCell' = true) (b o c : Nat)
  (hc : ∀ j, j < seg.length → (w.cell? ⟨b, o + j, none⟩).isSome = true) (hf : ∀ j, j < seg.length → w.frozen? ⟨b, o + j, none⟩ = false) :
  (Builtin.clear_ #[t] ty #[.slice (some ⟨b, o, none⟩) 1 c]).run P w = .ok (.tuple #[]) (w.setCells b o seg) := by
 have hst := run_storeCells_cells (P := P) b o seg 0 w (by simpa using hc) (by simpa using hf) h1
 simp only [Nat.add_zero] at hst
 simp [Builtin.clear_, run_underlying ht, hv, hz, hst]
theorem S_cells {α : Type} {d : Kd α} {e : Nat} {W : World} {base : Nat} {ok : Nat → Prop} {xs : List α} {g n c : Nat} (h : Kd.S d e W base ok (.slice (some ⟨g, 0, none⟩) n c) xs) : ∀ o, o < c * d.sz → (W.cell? ⟨g, o, none⟩).isSome = true ∧ W.frozen? ⟨g, o, none⟩ = false := by
 intro o ho
 obtain ⟨hok, inner, ⟨ho1, ho2⟩, hr⟩ := Kd.S_R h
 rcases ho2 with ⟨hv, _⟩ | ⟨g', cap', cur, hv, hb, hh, hnc', hcm, hcs, ht⟩
 ·cases hv
 injection hv with ha _ hc
 injection ha with ha
 injection ha with hg
 subst hg; subst hc
 refine ⟨?_, blk_frozen hh o⟩
 rw [cell_of_row W g _ cur e (0, 0) hh, Array.getElem?_eq_getElem (by rw [hcs]; exact ho)]
 rfl
theorem delDat_zero : ∀ w, (zeroValue 41).run Tryz.prog w = .ok (.slice none 0 0) w := fun w => by kernel_rfl
set_option maxHeartbeats 4000000 in
set_option maxRecDepth 100000 in
theorem delDat_walk (g n c k : Nat) (base : Nat) (ok : Nat → Prop) (s : List _) (w : World) (hS : Kd.S (Kd.slice 89 (Kd.slice 87 k64)) 41 w base ok (.slice (some ⟨g, 0, none⟩) n c) s) (hk : k < n) :
  Calls Tryz.prog 36 #[.slice (some ⟨g, 0, none⟩) n c, .int .i64 k, .int .i64 ((k : Int) + 1)] w fun e_ w' => e_ = .returned (.slice (some ⟨g, 0, none⟩) (n - 1 : Nat) c) ∧ Kd.S (Kd.slice 89 (Kd.slice 87 k64)) 41 w' base ok (.slice (some ⟨g, 0, none⟩) (n - 1 : Nat) c) (s.eraseIdx k) ∧ w.grownBy w' (some g) := by
 obtain ⟨hn, hnc, hC⟩ := Kd.S_reads' hS
 have hm := hC.2.1
 have hcm : c ≤ 9223372036854775807 := by
  obtain ⟨_, inner, ⟨_, ho2⟩, _⟩ := Kd.S_R hS
  rcases ho2 with ⟨hv, _⟩ | ⟨g', cap', cur, hv, hb, hh, hnc', hcm, hcs, ht⟩
  ·cases hv
  injection hv with ha _ hc
  subst hc
  exact hcm
 have hb0 : base ≤ w.heap.size := by have h1 := Kd.S_base hS g (by simp [Value.ownBlock]); have h2 := Kd.S_lt hS g (by simp [Value.ownBlock]); omega
 have HS := Aside0.mk (Kd.S_drew hS)
 have HBB : Aside0 (base ≤ w.drew.heap.size) := ⟨hb0⟩
 have HN := Aside0.mk hn
 have d1 : ((k : Int) == (k : Int) + 1) = false := beq_eq_false_iff_ne.mpr (by omega)
 have hkc : k + 1 ≤ c := by omega
 have hn1 : n - (n - 1) = 1 := by omega
 clear hS hC hn hb0
 go_enter Tryz.func36, Tryz.ntmps36
 go_wp2
 have hkc2 : k ≤ c := by omega
 have hka : (0 : Int) ≤ (k : Int) + 1 := by omega
 have hkb : (k : Int) + 1 ≤ (n : Int) := by omega
 refine start_ (n := 8) (S := fun W => True) (ds := []) #[false, false, false, false, false, false, false, false] (by kernel_rfl) rfl rfl trivial (fun hHeld => ?_)
 refine pure_ (i := 0) (N := some 20) (v := ?_) (a' := ?_) #[true, false, false, false, false, false, false, false] rfl rfl (by kernel_rfl) (fun _ _ _ h => h) (Or.inl ⟨by rfl, ?_⟩) ?_ ?_
 rotate_left
 ·intro w'; go_simp; with_reducible rfl
 rotate_left
 ·simp only [Act.put, List.setIfInBounds_toArray, List.set_cons_zero, List.set_cons_succ, i64_w, i32_w]; rfl
 refine pure_ (i := 1) (N := some 21) (v := ?_) (a' := ?_) #[true, true, false, false, false, false, false, false] rfl rfl (by kernel_rfl) (fun _ _ _ h => h) (Or.inl ⟨by rfl, ?_⟩) ?_ ?_
 rotate_left
 ·intro w'; go_simp; with_reducible rfl
 rotate_left
 ·simp only [Act.put, List.setIfInBounds_toArray, List.set_cons_zero, List.set_cons_succ, i64_w, i32_w]; rfl
 refine pure_ (i := 2) (N := some 22) (v := ?_) (a' := ?_) #[true, true, true, false, false, false, false, false] rfl rfl (by kernel_rfl) (fun _ _ _ h => h) (Or.inl ⟨by rfl, ?_⟩) ?_ ?_
 rotate_left
 ·intro w'; go_simp; with_reducible rfl
 rotate_left
 ·simp only [Act.put, List.setIfInBounds_toArray, List.set_cons_zero, List.set_cons_succ, i64_w, i32_w]; rfl
 refine pure_ (i := 3) (N := some 23) (v := ?_) (a' := ?_) #[true, true, true, true, false, false, false, false] rfl rfl (by kernel_rfl) (fun _ _ _ h => h) (Or.inl ⟨by rfl, ?_⟩) ?_ ?_
 rotate_left
 ·intro w'; go_simp; with_reducible rfl
 rotate_left
 ·simp only [Act.put, List.setIfInBounds_toArray, List.set_cons_zero, List.set_cons_succ, i64_w, i32_w]; rfl
 refine pure_ (i := 4) (N := some 24) (v := ?_) (a' := ?_) #[true, true, true, true, true, false, false, false] rfl rfl (by kernel_rfl) (fun _ _ _ h => h) (Or.inl ⟨by rfl, ?_⟩) ?_ ?_
 rotate_left
 ·intro w'; go_simp; with_reducible rfl
 rotate_left
 ·simp only [Act.put, List.setIfInBounds_toArray, List.set_cons_zero, List.set_cons_succ, i64_w, i32_w]; rfl
 refine pure_ (i := 5) (N := some 25) (v := ?_) (a' := ?_) #[true, true, true, true, true, true, false, false] rfl rfl (by kernel_rfl) (fun _ _ _ h => h) (Or.inl ⟨by rfl, ?_⟩) ?_ ?_
 rotate_left
 ·intro w'; go_simp; with_reducible rfl
 rotate_left
 ·simp only [Act.put, List.setIfInBounds_toArray, List.set_cons_zero, List.set_cons_succ, i64_w, i32_w]; rfl
 refine one_ (i := 6) (N := some 26) #[true, true, true, true, true, true, true, false] rfl rfl (by kernel_rfl) (by decide) (fun K hK => ?_)
 refine Kd.S_delete_step (Kd.slice 89 (Kd.slice 87 k64)) (w0 := w) base (by rfl) (.tmp 22) (.tmp 25) 25 41 rfl Tryz.underlying25 (by kernel_rfl) (n := n) (c := c) (k := k) (xs := s) (ok := ok) rfl rfl ?hA rfl HS.out hk ?hB HBB.out ?_
 case hA =>
  split
  ·rfl
  ·show some (⟨g, (k + 1), none⟩ : Addr) = some ((⟨g, 0, none⟩ : Addr).add ((k + 1) * 1))
   rw [add_plain, Nat.mul_one]
 case hB => exact below_drew (Below.refl _ _)
 intro W1 hS1 hB1 hG1
 refine hK.out _ _ trivial (fun _ => ?_)
 clear hK K
 refine norm_ (a' := ?_) ?_ ?_
 rotate_left
 ·show Act.put _ (some 26) _ = _; simp only [Act.put, List.setIfInBounds_toArray, List.set_cons_zero, List.set_cons_succ, i64_w, i32_w]; rfl
 refine pure_ (i := 7) (N := some 0) (v := ?_) (a' := ?_) #[true, true, true, true, true, true, true, true] rfl rfl (by kernel_rfl) (fun _ _ _ h => h) (Or.inl ⟨by rfl, ?_⟩) ?_ ?_
 rotate_left
 ·intro w'; go_simp; with_reducible rfl
 rotate_left
 ·simp only [Act.put, List.setIfInBounds_toArray, List.set_cons_zero, List.set_cons_succ, i64_w, i32_w]; rfl
 refine done_ (by kernel_rfl) ?_
 have hcc := S_cells hS1
 have hcl : ∀ ty, (Builtin.clear_ #[25] ty #[.slice (some ⟨g, (n - 1), none⟩) 1 (c - (n - 1))]).run Tryz.prog W1 = .ok (.tuple #[]) (W1.setCells g ((n - 1)) [.slice none 0 0]) := fun ty => clear_one W1 25 41 ty _ [.slice none 0 0] Tryz.underlying25 delDat_zero (by kernel_rfl) (by simp [Value.oneCell']) g _ _ (fun j hj => (hcc _ (by have : j < 1 := hj; show (n - 1) + j < c * 1; omega)).1) (fun j hj => (hcc _ (by have : j < 1 := hj; show (n - 1) + j < c * 1; omega)).2)
 have hS2 := S_clear hS1 ((n - 1)) (by show (n - 1) * 1 ≤ (n - 1); omega) [.slice none 0 0] (by show (n - 1) + 1 ≤ c * 1; omega)
 have HS2 := Aside0.mk hS2
 have HG1 := Aside0.mk hG1
 clear hS2 hS1 hcc hB1 hG1
 go_wp2
 all_goals
  go_ret
  first | exact ⟨rfl, HS2.out.1, (⟨HG1.out.os, HG1.out.tape, HG1.out.output, HG1.out.size, HG1.out.block⟩ : w.grownBy W1 (some g)).trans HS2.out.2⟩ | (have e9 : c = k + 1 := ‹c = k + 1›; have h9 := HS2.out.1; rw [e9] at h9; exact ⟨rfl, h9, (⟨HG1.out.os, HG1.out.tape, HG1.out.output, HG1.out.size, HG1.out.block⟩ : w.grownBy W1 (some g)).trans HS2.out.2⟩)
theorem delTab_zero : ∀ w, (zeroValue 72).run Tryz.prog w = .ok (.agg #[(.string ⟨#[]⟩), (.slice none 0 0), (.slice none 0 0), (.slice none 0 0), (.slice none 0 0)]) w := fun w => by kernel_rfl
set_option maxHeartbeats 4000000 in
set_option maxRecDepth 100000 in
theorem delTab_walk (g n c k : Nat) (base : Nat) (ok : Nat → Prop) (s : List _) (w : World) (hS : Kd.S k49 72 w base ok (.slice (some ⟨g, 0, none⟩) n c) s) (hk : k < n) :
  Calls Tryz.prog 35 #[.slice (some ⟨g, 0, none⟩) n c, .int .i64 k, .int .i64 ((k : Int) + 1)] w fun e_ w' => e_ = .returned (.slice (some ⟨g, 0, none⟩) (n - 1 : Nat) c) ∧ Kd.S k49 72 w' base ok (.slice (some ⟨g, 0, none⟩) (n - 1 : Nat) c) (s.eraseIdx k) ∧ w.grownBy w' (some g) := by
 obtain ⟨hn, hnc, hC⟩ := Kd.S_reads' hS
 have hm := hC.2.1
 have hcm : c ≤ 9223372036854775807 := by
  obtain ⟨_, inner, ⟨_, ho2⟩, _⟩ := Kd.S_R hS
  rcases ho2 with ⟨hv, _⟩ | ⟨g', cap', cur, hv, hb, hh, hnc', hcm, hcs, ht⟩
  ·cases hv
  injection hv with ha _ hc
  subst hc
  exact hcm
 have hb0 : base ≤ w.heap.size := by have h1 := Kd.S_base hS g (by simp [Value.ownBlock]); have h2 := Kd.S_lt hS g (by simp [Value.ownBlock]); omega
 have HS := Aside0.mk (Kd.S_drew hS)
 have HBB : Aside0 (base ≤ w.drew.heap.size) := ⟨hb0⟩
 have HN := Aside0.mk hn
 have d1 : ((k : Int) == (k : Int) + 1) = false := beq_eq_false_iff_ne.mpr (by omega)
 have hkc : k + 1 ≤ c := by omega
 have hn1 : n - (n - 1) = 1 := by omega
 clear hS hC hn hb0
 go_enter Tryz.func35, Tryz.ntmps35
 go_wp2
 have hkc2 : k ≤ c := by omega
 have hka : (0 : Int) ≤ (k : Int) + 1 := by omega
 have hkb : (k : Int) + 1 ≤ (n : Int) := by omega
 refine start_ (n := 8) (S := fun W => True) (ds := []) #[false, false, false, false, false, false, false, false] (by kernel_rfl) rfl rfl trivial (fun hHeld => ?_)
 refine pure_ (i := 0) (N := some 20) (v := ?_) (a' := ?_) #[true, false, false, false, false, false, false, false] rfl rfl (by kernel_rfl) (fun _ _ _ h => h) (Or.inl ⟨by rfl, ?_⟩) ?_ ?_
 rotate_left
 ·intro w'; go_simp; with_reducible rfl
 rotate_left
 ·simp only [Act.put, List.setIfInBounds_toArray, List.set_cons_zero, List.set_cons_succ, i64_w, i32_w]; rfl
 refine pure_ (i := 1) (N := some 21) (v := ?_) (a' := ?_) #[true, true, false, false, false, false, false, false] rfl rfl (by kernel_rfl) (fun _ _ _ h => h) (Or.inl ⟨by rfl, ?_⟩) ?_ ?_
 rotate_left
 ·intro w'; go_simp; with_reducible rfl
 rotate_left
 ·simp only [Act.put, List.setIfInBounds_toArray, List.set_cons_zero, List.set_cons_succ, i64_w, i32_w]; rfl
 refine pure_ (i := 2) (N := some 22) (v := ?_) (a' := ?_) #[true, true, true, false, false, false, false, false] rfl rfl (by kernel_rfl) (fun _ _ _ h => h) (Or.inl ⟨by rfl, ?_⟩) ?_ ?_
 rotate_left
 ·intro w'; go_simp; with_reducible rfl
 rotate_left
 ·simp only [Act.put, List.setIfInBounds_toArray, List.set_cons_zero, List.set_cons_succ, i64_w, i32_w]; rfl
 refine pure_ (i := 3) (N := some 23) (v := ?_) (a' := ?_) #[true, true, true, true, false, false, false, false] rfl rfl (by kernel_rfl) (fun _ _ _ h => h) (Or.inl ⟨by rfl, ?_⟩) ?_ ?_
 rotate_left
 ·intro w'; go_simp; with_reducible rfl
 rotate_left
 ·simp only [Act.put, List.setIfInBounds_toArray, List.set_cons_zero, List.set_cons_succ, i64_w, i32_w]; rfl
 refine pure_ (i := 4) (N := some 24) (v := ?_) (a' := ?_) #[true, true, true, true, true, false, false, false] rfl rfl (by kernel_rfl) (fun _ _ _ h => h) (Or.inl ⟨by rfl, ?_⟩) ?_ ?_
 rotate_left
 ·intro w'; go_simp; with_reducible rfl
 rotate_left
 ·simp only [Act.put, List.setIfInBounds_toArray, List.set_cons_zero, List.set_cons_succ, i64_w, i32_w]; rfl
 refine pure_ (i := 5) (N := some 25) (v := ?_) (a' := ?_) #[true, true, true, true, true, true, false, false] rfl rfl (by kernel_rfl) (fun _ _ _ h => h) (Or.inl ⟨by rfl, ?_⟩) ?_ ?_
 rotate_left
 ·intro w'; go_simp; with_reducible rfl
 rotate_left
 ·simp only [Act.put, List.setIfInBounds_toArray, List.set_cons_zero, List.set_cons_succ, i64_w, i32_w]; rfl
 refine one_ (i := 6) (N := some 26) #[true, true, true, true, true, true, true, false] rfl rfl (by kernel_rfl) (by decide) (fun K hK => ?_)
 refine Kd.S_delete_step k49 (w0 := w) base (by rfl) (.tmp 22) (.tmp 25) 23 72 rfl Tryz.underlying23 (by kernel_rfl) (n := n) (c := c) (k := k) (xs := s) (ok := ok) rfl rfl ?hA rfl HS.out hk ?hB HBB.out ?_
 case hA =>
  split
  ·rfl
  ·show some (⟨g, (k + 1) * 5, none⟩ : Addr) = some ((⟨g, 0, none⟩ : Addr).add ((k + 1) * 5))
   rw [add_plain]
 case hB => exact below_drew (Below.refl _ _)
 intro W1 hS1 hB1 hG1
 refine hK.out _ _ trivial (fun _ => ?_)
 clear hK K
 refine norm_ (a' := ?_) ?_ ?_
 rotate_left
 ·show Act.put _ (some 26) _ = _; simp only [Act.put, List.setIfInBounds_toArray, List.set_cons_zero, List.set_cons_succ, i64_w, i32_w]; rfl
 refine pure_ (i := 7) (N := some 0) (v := ?_) (a' := ?_) #[true, true, true, true, true, true, true, true] rfl rfl (by kernel_rfl) (fun _ _ _ h => h) (Or.inl ⟨by rfl, ?_⟩) ?_ ?_
 rotate_left
 ·intro w'; go_simp; with_reducible rfl
 rotate_left
 ·simp only [Act.put, List.setIfInBounds_toArray, List.set_cons_zero, List.set_cons_succ, i64_w, i32_w]; rfl
 refine done_ (by kernel_rfl) ?_
 have hcc := S_cells hS1
 have hcl : ∀ ty, (Builtin.clear_ #[23] ty #[.slice (some ⟨g, (n - 1) * 5, none⟩) 1 (c - (n - 1))]).run Tryz.prog W1 = .ok (.tuple #[]) (W1.setCells g ((n - 1) * 5) [.string ⟨#[]⟩, .slice none 0 0, .slice none 0 0, .slice none 0 0, .slice none 0 0]) := fun ty => clear_one W1 23 72 ty _ [.string ⟨#[]⟩, .slice none 0 0, .slice none 0 0, .slice none 0 0, .slice none 0 0] Tryz.underlying23 delTab_zero (by kernel_rfl) (by simp [Value.oneCell']) g _ _ (fun j hj => (hcc _ (by have : j < 5 := hj; show (n - 1) * 5 + j < c * 5; omega)).1) (fun j hj => (hcc _ (by have : j < 5 := hj; show (n - 1) * 5 + j < c * 5; omega)).2)
 have hS2 := S_clear hS1 ((n - 1) * 5) (by show (n - 1) * 5 ≤ (n - 1) * 5; omega) [.string ⟨#[]⟩, .slice none 0 0, .slice none 0 0, .slice none 0 0, .slice none 0 0] (by show (n - 1) * 5 + 5 ≤ c * 5; omega)
 have HS2 := Aside0.mk hS2
 have HG1 := Aside0.mk hG1
 clear hS2 hS1 hcc hB1 hG1
 go_wp2
 all_goals
  go_ret
  first | exact ⟨rfl, HS2.out.1, (⟨HG1.out.os, HG1.out.tape, HG1.out.output, HG1.out.size, HG1.out.block⟩ : w.grownBy W1 (some g)).trans HS2.out.2⟩ | (have e9 : c = k + 1 := ‹c = k + 1›; have h9 := HS2.out.1; rw [e9] at h9; exact ⟨rfl, h9, (⟨HG1.out.os, HG1.out.tape, HG1.out.output, HG1.out.size, HG1.out.block⟩ : w.grownBy W1 (some g)).trans HS2.out.2⟩)
attribute [local go_sem] max2_int min2_int max_two min_two max_three min_three max_four min_four
attribute [local go_sem high] eqA64
end Go.Proofs.YthgfdnffnbclpaaGreatDoor.PAll
namespace Go.Proofs.YthgfdnffnbclpaaGreatDoor.PAll
open Go.RowKit Go.Proofs.YthgfdnffnbclpaaGreatDoorW.PrintWords Go.Proofs.YthgfdnffnbclpaaGreatDoorW.PrintLast Go.Proofs.YthgfdnffnbclpaaGreatDoorW.PrintMore
end Go.Proofs.YthgfdnffnbclpaaGreatDoor.PAll
