/- The scanner of layer 2: the next token, a number. -/
import Derived.Test.YtaibkpbiccibjaaGreatDoorLNext0
set_option linter.unusedVariables false
namespace Go.Proofs.YtaibkpbiccibjaaGreatDoor.PAll
open Go.RowKit Go.Proofs.YtaibkpbiccibjaaGreatDoorW.PrintWords Go.Proofs.YtaibkpbiccibjaaGreatDoorW.PrintLast Go.Proofs.YtaibkpbiccibjaaGreatDoorW.PrintMore

set_option maxHeartbeats 8000000 in
set_option maxRecDepth 100000 in
theorem next_number (g : Nat) (s : ByteArray) (a0 : Nat) (w0 w : World) (hL0 : LaidL w0) (hI : IsS43 w0 w g s a0) (hB : Below w0.heap.size w0 w) (ha : a0 < s.size) (hsz : s.size ≤ 4000) (hcls : cls s[a0] = 3) :
    Calls Tryz.prog 20 #[.pointer (some ⟨g, 0, none⟩)] w fun e w' => e = .returned (.tuple #[.agg #[.int .u8 (nextR s a0).1.1, .string (nextR s a0).1.2.1, .int .i64 (nextR s a0).1.2.2], .int .i64 (nextR s a0).2.1]) ∧
      IsS43 w0 w' g s ((nextR s a0).2.2 : Nat) ∧ Below w0.heap.size w0 w' ∧ KeepBut w w' g none := by
  have hu33 := Tryz.underlying34
  have hpos0 : 0 < w0.heap.size := (World.block_lt_of_cell? w0 _ (hL0.tab 0 (by decide)) : (⟨0, 0, none⟩ : Addr).block < w0.heap.size)
  have HL0 := Aside0.mk hL0
  clear hL0
  have HN := Aside0.mk (NX.start hI hB (a0 : Int))
  have hS := NX.start hI hB 0
  have q0 := hS.c0
  have q1 := hS.s0
  have q2 := hS.s1
  have q3 := hS.tf 2
  have r0 := HN.out.c0
  have r1 := HN.out.s0
  have r2 := HN.out.s1
  have hai : (a0 : Int) < (s.size : Int) := by omega
  have hai0 : (0 : Int) ≤ (a0 : Int) := by omega
  have HC : ∀ w1, Aside0 (Calls Tryz.prog 27 #[.int .u8 s[a0].toNat] w1 fun e w' => e = .returned (.int .i64 3) ∧ ∃ m, w' = w1.drewN m) := fun w1 => ⟨(cls_calls s[a0] w1).mono fun e w' h => by rw [hcls] at h; exact ⟨h.1, h.2.out⟩⟩
  clear hI hB hS
  go_enter Tryz.func20, Tryz.ntmps20
  go_upto_region 3 with fail
  clear q0 q1 q2 q3
  generalize ((w.alloc (Obj.cells #[Value.pointer (some { block := g, off := 0 })] 64)).alloc (Obj.cells #[Value.int IntKind.u8 0, Value.string { data := #[] }, Value.int IntKind.i64 ↑a0] 34)) = W1 at *
  go_quiet (first | (go_at_call 27; refine Calls.quiet_of (HC _).out))
  have HN2 := Aside0.mk (HN.out.drewN nq)
  clear HN r0 r1 r2 HC
  generalize W1.drewN nq = W2 at *
  have r0 := HN2.out.c0
  have r2 := HN2.out.s1
  have HA := Aside0.mk (HN2.out.alloc (Obj.cells #[Value.int IntKind.i64 3] 3))
  have p0 := HA.out.c0
  have p1 := HA.out.s0
  have p2 := HA.out.s1
  have hblk := blk_new W2 (Obj.cells #[Value.int IntKind.i64 3] 3)
  have HR : Aside0 (Calls Tryz.prog 31 #[.pointer (some ⟨g, 0, none⟩), .int .i64 a0, .slice (some ⟨W2.heap.size, 0, none⟩) 1 1] (W2.alloc (Obj.cells #[Value.int IntKind.i64 3] 3)).drew fun e w' => e = .returned (.int .i64 ((s.data.toList.drop a0).takeWhile (inCls [3])).length) ∧ Drawn0 (W2.alloc (Obj.cells #[Value.int IntKind.i64 3] 3)).drew w') :=
    ⟨run_calls g s a0 W2.heap.size 0 1 [3] _ p1 (by omega) (by omega) (by simp) (fun j hj => by
      rcases j with _ | j
      · exact (blk_cell hblk 0).trans rfl
      · simp at hj)⟩
  have hNl : ((s.data.toList.drop a0).takeWhile (inCls [3])).length ≤ (s.data.toList.drop a0).length := Lx.takeWhile_len _
  rw [inCls_dig] at HR hNl
  obtain ⟨wd, hwd⟩ : ∃ wd : List UInt8, wd = (s.data.toList.drop a0).takeWhile Lx.isDig := ⟨_, rfl⟩
  rw [← hwd] at HR hNl
  generalize hwl : wd.length = N at HR hNl
  have hL : s.data.toList.length = s.size := by simp
  have hNs : a0 + N ≤ s.size := by rw [List.length_drop] at hNl; omega
  have hw : IntKind.i64.wrap ((a0 : Int) + (N : Int)) = ((a0 + N : Nat) : Int) := by rw [IntKind.wrap_i64]; omega
  obtain ⟨en, hen⟩ : ∃ en, en = a0 + N := ⟨_, rfl⟩
  rw [← hen] at hw
  have HEN := Aside0.mk hen
  have HWD := Aside0.mk hwd
  have HWL := Aside0.mk hwl
  clear hblk hNl hen hwd hwl
  go_upto_region 21 with fail
  go_cut [4] (fun v4 wx => v4 = .int .i64 en ∧ Aside0 (NX w0 w wx g s a0 0 ⟨#[]⟩ a0))
  case first =>
    go_region_with (go_at_call 31; refine HR.out.mono ?_; rintro e w' ⟨rfl, ⟨n, rfl⟩⟩)
    all_goals (go_wp2_with fail; go_meet; exact ⟨rfl, ⟨HA.out.drewN _⟩⟩)
  case rest =>
  obtain ⟨rfl, HN3⟩ := hcut
  clear HN2 r0 r2 HA p0 p1 p2 HR
  have hwd := HWD.out
  have hwl := HWL.out
  have hen : en = a0 + N := HEN.out
  have hex : s.extract a0 en = ⟨wd.toArray⟩ := by
    rw [extract_list', hen, show a0 + N - a0 = N by omega, ← hwl, hwd, takeWhile_take]
  have hwall : ∀ b ∈ wd, Lx.isDig b = true := fun b hb => mem_takeWhile Lx.isDig _ b (by rw [← hwd]; exact hb)
  have hdg := (cls_let s[a0]).2.1.1 hcls
  have hd := drop_at ha
  have hwne : wd ≠ [] := by rw [hwd, hd, List.takeWhile_cons, if_pos hdg]; simp
  have hlet : ¬ Lx.isLet s[a0] = true := fun h => by have := (cls_let s[a0]).1.2 h; omega
  have hdd : (s.data.toList.drop a0).drop wd.length = s.data.toList.drop en := by rw [List.drop_drop, hwl, hen]
  have HTK : Aside0 (Lx.tokL isKw marksL (s.data.toList.drop a0) = if 9223372036854775808 < Lx.numD wd then .bad 23 else (if ((s.data.toList.drop en).head?.map Lx.isLet).getD false = true then .bad 24 else .good 3 wd N)) := by
    refine ⟨?_⟩
    rw [← hdd, ← hwl, hwd, hd]
    unfold Lx.tokL
    simp only
    rw [if_neg hlet, if_pos hdg]
  obtain ⟨DGB, hDGB⟩ : ∃ DGB : ByteArray, DGB = ⟨wd.toArray⟩ := ⟨_, rfl⟩
  rw [← hDGB] at hex
  have hds : DGB.size = N := by rw [hDGB]; show wd.toArray.size = N; rw [List.size_toArray, hwl]
  have HFT : ∀ w1, LaidL w1 → Aside0 (Calls Tryz.prog 38 #[.string DGB] w1 fun e w' => e = .returned (.bool (decide (Lx.numD wd ≤ 9223372036854775808))) ∧ Below w1.heap.size w1 w') := fun w1 h1 => by
    have := fits_calls DGB w1 h1 (by rw [hDGB]; exact hwne) (by rw [hDGB]; exact hwall) (by omega)
    rw [show DGB.data.toList = wd by rw [hDGB]] at this
    exact ⟨this⟩
  have HDGB := Aside0.mk hDGB
  have HEN2 := Aside0.mk hen
  clear hwd hwall hd hcls hwl hwne hlet hdg hdd hDGB hds
  have r0 := HN3.out.c0
  have r1 := HN3.out.s0
  have r2 := HN3.out.s1
  have r3 := HN3.out.t0
  have r4 := HN3.out.tf 0
  have HN3b := Aside0.mk (HN3.out.setK 3)
  have r5 := HN3b.out.t1
  have r6 := HN3b.out.tf 1
  have r7 := HN3b.out.c0
  have r8 := HN3b.out.s0
  have r9 := HN3b.out.s1
  have k1 : (a0 : Int) ≤ (en : Int) := by omega
  have k2 : (en : Int) ≤ (s.size : Int) := by omega
  have k3 : (0 : Int) ≤ (en : Int) := by omega
  clear hw hen
  go_upto_region 22 with fail
  go_cut [] (fun wx => Aside0 (NX w0 w wx g s a0 3 DGB a0))
  case first =>
    go_region
    all_goals (go_wp2_with fail; go_meet; exact ⟨((HN3.out.setK 3).setT DGB).drewN 1⟩)
  case rest =>
  have HN4 := hcut
  clear HN3 HN3b r0 r1 r2 r3 r4 r5 r6 r7 r8 r9 hex k1
  have r0 := HN4.out.t1
  have HF4 := HFT wc (LaidL.below HL0 HN4.out.bel)
  clear HFT
  have HRUN : ∀ w1 : World, w1.cell? ⟨g, 0, none⟩ = some (.string s) → Aside0 (Calls Tryz.prog 31 #[.pointer (some ⟨g, 0, none⟩), .int .i64 en, .slice (some ⟨w1.heap.size, 0, none⟩) 1 1] (w1.alloc (Obj.cells #[Value.int IntKind.i64 2] 3)) fun e w' => e = .returned (.int .i64 ((s.data.toList.drop en).takeWhile (inCls [2])).length) ∧ Drawn0 (w1.alloc (Obj.cells #[Value.int IntKind.i64 2] 3)) w') := fun w1 hc1 =>
    ⟨run_calls g s en w1.heap.size 0 1 [2] _ (((Below.refl _ w1).alloc (Nat.le_refl _) _).cell (p := ⟨g, 0, none⟩) (World.block_lt_of_cell? w1 _ hc1) |>.trans hc1) (by omega) (by omega) (by simp) (fun j hj => by
      rcases j with _ | j
      · exact (blk_cell (blk_new w1 (Obj.cells #[Value.int IntKind.i64 2] 3)) 0).trans rfl
      · simp at hj)⟩
  have hrun : (0 < ((s.data.toList.drop en).takeWhile (inCls [2])).length) ↔ ((s.data.toList.drop en).head?.map Lx.isLet).getD false = true := by
    rw [inCls_let]
    cases s.data.toList.drop en with
    | nil => simp
    | cons c r =>
      rw [List.takeWhile_cons]
      cases h : Lx.isLet c <;> simp [h]
  generalize ((s.data.toList.drop en).takeWhile (inCls [2])).length = N2 at *
  by_cases hbig : 9223372036854775808 < Lx.numD wd
  · have hR : nextR s a0 = ((0, ⟨#[]⟩, 0), 23, a0) := by
      unfold nextR
      rw [HTK.out, if_pos hbig]
    have HRR := Aside0.mk hR
    rw [decide_eq_false (by omega : ¬ Lx.numD wd ≤ 9223372036854775808)] at HF4
    clear hR HTK hrun hbig HRUN
    go_wp2_with (go_at_call 38; refine HF4.out.mono ?_; rintro e w5 ⟨rfl, hb5⟩; have HN5 := Aside0.mk (HN4.out.below hb5); have v0 := HN5.out.t0; have v1 := HN5.out.t1; have v2 := HN5.out.t2; have v3 := HN5.out.tf 0; have v4 := HN5.out.tf 1; have v5 := HN5.out.tf 2)
    have HNA := ((HN5.out.setK 0).setT ⟨#[]⟩).setP 0
    refine bodyPost_ret (results_ct rfl _ _ (w.heap.size + 1) 34 #[.int .u8 0, .string ⟨#[]⟩, .int .i64 0] (0, 0) _ rfl HNA.tok Tryz.underlying34 rfl (by kernel_rfl)) rfl ?_
    rw [HRR.out]
    exact ⟨rfl, HNA.sc, HNA.bel, HNA.keep⟩
  · rw [decide_eq_true (by omega : Lx.numD wd ≤ 9223372036854775808)] at HF4
    by_cases hnx : ((s.data.toList.drop en).head?.map Lx.isLet).getD false = true
    · have hR : nextR s a0 = ((0, ⟨#[]⟩, 0), 24, a0) := by
        unfold nextR
        rw [HTK.out, if_neg hbig, if_pos hnx]
      have HRR := Aside0.mk hR
      have hNi : (0 : Int) < (N2 : Int) := by have := hrun.2 hnx; omega
      clear hR HTK hrun hbig hnx
      go_wp2_with (first
        | (go_at_call 38; refine HF4.out.mono ?_; rintro e w5 ⟨rfl, hb5⟩; have HN5 := Aside0.mk (HN4.out.below hb5); have v0 := HN5.out.c0; have HR5 := HRUN w5 HN5.out.s0)
        | (go_at_call 31; refine HR5.out.mono ?_; rintro e w6 ⟨rfl, ⟨n, rfl⟩⟩; have HN6 := Aside0.mk ((HN5.out.alloc (Obj.cells #[Value.int IntKind.i64 2] 3)).drewN n); have y0 := HN6.out.t0; have y1 := HN6.out.t1; have y2 := HN6.out.t2; have y3 := HN6.out.tf 0; have y4 := HN6.out.tf 1; have y5 := HN6.out.tf 2))
      have HNA := ((HN6.out.setK 0).setT ⟨#[]⟩).setP 0
      refine bodyPost_ret (results_ct rfl _ _ (w.heap.size + 1) 34 #[.int .u8 0, .string ⟨#[]⟩, .int .i64 0] (0, 0) _ rfl HNA.tok Tryz.underlying34 rfl (by kernel_rfl)) rfl ?_
      rw [HRR.out]
      exact ⟨rfl, HNA.sc, HNA.bel, HNA.keep⟩
    · have hR : nextR s a0 = ((3, DGB, (a0 : Int)), 0, en) := by
        unfold nextR
        rw [HTK.out, if_neg hbig, if_neg hnx, HDGB.out, HEN2.out]
      have HRR := Aside0.mk hR
      have hNi : ¬ (0 : Int) < (N2 : Int) := by
        have h1 : ¬ 0 < N2 := fun h => hnx (hrun.1 h)
        omega
      clear hR HTK hrun hbig hnx
      go_wp2_with (first
        | (go_at_call 38; refine HF4.out.mono ?_; rintro e w5 ⟨rfl, hb5⟩; have HN5 := Aside0.mk (HN4.out.below hb5); have v0 := HN5.out.c0; have HR5 := HRUN w5 HN5.out.s0)
        | (go_at_call 31; refine HR5.out.mono ?_; rintro e w6 ⟨rfl, ⟨n, rfl⟩⟩; have HN6 := Aside0.mk ((HN5.out.alloc (Obj.cells #[Value.int IntKind.i64 2] 3)).drewN n); generalize (w5.alloc (Obj.cells #[Value.int IntKind.i64 2] 3)).drewN n = w6 at *; have y0 := HN6.out.c0; have y1 := HN6.out.s1; have y2 := HN6.out.sf 1; have HN7 := Aside0.mk (HN6.out.at_ (en : Int)); have z0 := HN7.out.t0; have z1 := HN7.out.t1; have z2 := HN7.out.t2; have z3 := HN7.out.tf 0; have z4 := HN7.out.tf 1; have z5 := HN7.out.tf 2))
      have HNA := ((HN7.out.setK 3).setT DGB).setP a0
      refine bodyPost_ret (results_ct rfl _ _ (w.heap.size + 1) 34 #[.int .u8 3, .string DGB, .int .i64 a0] (0, 0) _ rfl HNA.tok Tryz.underlying34 rfl (by kernel_rfl)) rfl ?_
      rw [HRR.out]
      exact ⟨rfl, HNA.sc, HNA.bel, HNA.keep⟩
end Go.Proofs.YtaibkpbiccibjaaGreatDoor.PAll
