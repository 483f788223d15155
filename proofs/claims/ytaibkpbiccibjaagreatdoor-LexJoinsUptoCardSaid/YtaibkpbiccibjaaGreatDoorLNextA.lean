/- The scanner of layer 2: the next token, a word. -/
import Derived.Test.YtaibkpbiccibjaaGreatDoorLNext0
set_option linter.unusedVariables false
namespace Go.Proofs.YtaibkpbiccibjaaGreatDoor.PAll
open Go.RowKit Go.Proofs.YtaibkpbiccibjaaGreatDoorW.PrintWords Go.Proofs.YtaibkpbiccibjaaGreatDoorW.PrintLast Go.Proofs.YtaibkpbiccibjaaGreatDoorW.PrintMore

set_option maxHeartbeats 8000000 in
set_option maxRecDepth 100000 in
theorem next_word (g : Nat) (s : ByteArray) (a0 : Nat) (w0 w : World) (hL0 : LaidL w0) (hI : IsS43 w0 w g s a0) (hB : Below w0.heap.size w0 w) (ha : a0 < s.size) (hsz : s.size ≤ 4000) (hcls : cls s[a0] = 2) :
    Calls Tryz.prog 20 #[.pointer (some ⟨g, 0, none⟩)] w fun e w' => e = .returned (.tuple #[.agg #[.int .u8 (nextR s a0).1.1, .string (nextR s a0).1.2.1, .int .i64 (nextR s a0).1.2.2], .int .i64 (nextR s a0).2.1]) ∧
      IsS43 w0 w' g s ((nextR s a0).2.2 : Nat) ∧ Below w0.heap.size w0 w' ∧ KeepBut w w' g none := by
  have hu33 := Tryz.underlying34
  have hpos0 : 0 < w0.heap.size := (World.block_lt_of_cell? w0 _ (hL0.tab 0 (by decide)) : (⟨0, 0, none⟩ : Addr).block < w0.heap.size)
  have HL0 := Aside0.mk hL0
  clear hL0
  have HN := Aside0.mk (NX.start hI hB (a0 : Int))
  have hS := NX.start hI hB 0
  have q0 := hS.c0
  have q1 := hS.s0
  have q2 := hS.s1
  have q3 := hS.tf 2
  have r0 := HN.out.c0
  have r1 := HN.out.s0
  have r2 := HN.out.s1
  have hai : (a0 : Int) < (s.size : Int) := by omega
  have hai0 : (0 : Int) ≤ (a0 : Int) := by omega
  have HC : ∀ w1, Aside0 (Calls Tryz.prog 27 #[.int .u8 s[a0].toNat] w1 fun e w' => e = .returned (.int .i64 2) ∧ ∃ m, w' = w1.drewN m) := fun w1 => ⟨(cls_calls s[a0] w1).mono fun e w' h => by rw [hcls] at h; exact ⟨h.1, h.2.out⟩⟩
  clear hI hB hS
  go_enter Tryz.func20, Tryz.ntmps20
  go_upto_region 3 with fail
  clear q0 q1 q2 q3
  generalize ((w.alloc (Obj.cells #[Value.pointer (some { block := g, off := 0 })] 64)).alloc (Obj.cells #[Value.int IntKind.u8 0, Value.string { data := #[] }, Value.int IntKind.i64 ↑a0] 34)) = W1 at *
  go_quiet (first | (go_at_call 27; refine Calls.quiet_of (HC _).out))
  have HN2 := Aside0.mk (HN.out.drewN nq)
  clear HN r0 r1 r2 HC
  generalize W1.drewN nq = W2 at *
  have r0 := HN2.out.c0
  have r2 := HN2.out.s1
  have HA := Aside0.mk (HN2.out.alloc (Obj.cells #[Value.int IntKind.i64 2, Value.int IntKind.i64 3] 3))
  have p0 := HA.out.c0
  have p1 := HA.out.s0
  have p2 := HA.out.s1
  have hblk := blk_new W2 (Obj.cells #[Value.int IntKind.i64 2, Value.int IntKind.i64 3] 3)
  have HR : Aside0 (Calls Tryz.prog 31 #[.pointer (some ⟨g, 0, none⟩), .int .i64 a0, .slice (some ⟨W2.heap.size, 0, none⟩) 2 2] (W2.alloc (Obj.cells #[Value.int IntKind.i64 2, Value.int IntKind.i64 3] 3)).drew fun e w' => e = .returned (.int .i64 ((s.data.toList.drop a0).takeWhile (inCls [2, 3])).length) ∧ Drawn0 (W2.alloc (Obj.cells #[Value.int IntKind.i64 2, Value.int IntKind.i64 3] 3)).drew w') :=
    ⟨run_calls g s a0 W2.heap.size 0 2 [2, 3] _ p1 (by omega) (by omega) (by simp) (fun j hj => by
      rcases j with _ | _ | j
      · exact (blk_cell hblk 0).trans rfl
      · exact (blk_cell hblk 1).trans rfl
      · simp at hj; omega)⟩
  have hNl : ((s.data.toList.drop a0).takeWhile (inCls [2, 3])).length ≤ (s.data.toList.drop a0).length := Lx.takeWhile_len _
  rw [inCls_word] at HR hNl
  obtain ⟨wd, hwd⟩ : ∃ wd : List UInt8, wd = (s.data.toList.drop a0).takeWhile Lx.isWord := ⟨_, rfl⟩
  rw [← hwd] at HR hNl
  generalize hwl : wd.length = N at HR hNl
  have hL : s.data.toList.length = s.size := by simp
  have hNs : a0 + N ≤ s.size := by rw [List.length_drop] at hNl; omega
  have hw : IntKind.i64.wrap ((a0 : Int) + (N : Int)) = ((a0 + N : Nat) : Int) := by rw [IntKind.wrap_i64]; omega
  obtain ⟨en, hen⟩ : ∃ en, en = a0 + N := ⟨_, rfl⟩
  rw [← hen] at hw
  have HEN := Aside0.mk hen
  have HWD := Aside0.mk hwd
  have HWL := Aside0.mk hwl
  clear hblk hNl hen hwd hwl
  go_upto_region 13 with fail
  go_cut [4] (fun v4 wx => v4 = .int .i64 en ∧ Aside0 (NX w0 w wx g s a0 0 ⟨#[]⟩ a0))
  case first =>
    go_region_with (go_at_call 31; refine HR.out.mono ?_; rintro e w' ⟨rfl, ⟨n, rfl⟩⟩)
    all_goals (go_wp2_with fail; go_meet; exact ⟨rfl, ⟨HA.out.drewN _⟩⟩)
  case rest =>
  obtain ⟨rfl, HN3⟩ := hcut
  clear HN2 r0 r2 HA p0 p1 p2 HR
  have hwd := HWD.out
  have hwl := HWL.out
  have hen : en = a0 + N := HEN.out
  have hex : s.extract a0 en = ⟨wd.toArray⟩ := by
    rw [extract_list', hen, show a0 + N - a0 = N by omega, ← hwl, hwd, takeWhile_take]
  have hwall : ∀ b ∈ wd, Lx.isWord b = true := fun b hb => mem_takeWhile Lx.isWord _ b (by rw [← hwd]; exact hb)
  have hup : Lib.toUpperA wd = wd.map Lx.up := by unfold Lib.toUpperA; exact List.map_congr_left fun b _ => upper_up b
  have hlow : Lib.toLowerA (wd.map Lx.up) = wd.map Lx.low := by
    unfold Lib.toLowerA
    rw [List.map_map]
    exact List.map_congr_left fun b _ => by rw [Function.comp, ← upper_up, lower_low]
  have HU : ∀ w1, Aside0 (Calls Tryz.prog 35 #[.string ⟨wd.toArray⟩] w1 fun e w' => e = .returned (.string ⟨(wd.map Lx.up).toArray⟩) ∧ Below w1.heap.size w1 w') := by
    intro w1
    have := Tryz.strings_ToUpper_ascii ⟨wd.toArray⟩ w1 (by show wd.toArray.size ≤ _; rw [List.size_toArray]; omega) (fun j b hb => (word_ascii b (hwall b (List.mem_of_getElem? hb))).1)
    rw [show (⟨wd.toArray⟩ : ByteArray).data.toList = wd from rfl, hup] at this
    exact ⟨this⟩
  have HLW : ∀ w1, Aside0 (Calls Tryz.prog 37 #[.string ⟨(wd.map Lx.up).toArray⟩] w1 fun e w' => e = .returned (.string ⟨(wd.map Lx.low).toArray⟩) ∧ Below w1.heap.size w1 w') := by
    intro w1
    have := Tryz.strings_ToLower_ascii ⟨(wd.map Lx.up).toArray⟩ w1 (by show (wd.map Lx.up).toArray.size ≤ _; rw [List.size_toArray, List.length_map]; omega) (fun j b hb => by
      obtain ⟨c, hc, rfl⟩ := List.mem_map.1 (List.mem_of_getElem? hb)
      exact (word_ascii c (hwall c hc)).2)
    rw [show (⟨(wd.map Lx.up).toArray⟩ : ByteArray).data.toList = wd.map Lx.up from rfl, hlow] at this
    exact ⟨this⟩
  have HKW : ∀ w1, LaidL w1 → Aside0 (Calls Tryz.prog 36 #[.string ⟨(wd.map Lx.up).toArray⟩] w1 fun e w' => e = .returned (.bool (isKw (wd.map Lx.up))) ∧ Below w1.heap.size w1 w') := fun w1 h1 => ⟨isKeyword_walk _ w1 h1⟩
  have hd := drop_at ha
  have HTK : Aside0 (Lx.tokL isKw marksL (s.data.toList.drop a0) = if isKw (wd.map Lx.up) = true then .good 1 (wd.map Lx.up) N else (if 20 < N then .bad 22 else .good 2 (wd.map Lx.low) N)) := by
    refine ⟨?_⟩
    rw [← hwl, hwd, hd]
    unfold Lx.tokL
    simp only
    rw [if_pos ((cls_let s[a0]).1.1 hcls)]
  have hls : (⟨(wd.map Lx.low).toArray⟩ : ByteArray).size = N := by show (wd.map Lx.low).toArray.size = N; rw [List.size_toArray, List.length_map, hwl]
  clear hwd hwall hup hlow hd hcls hwl
  obtain ⟨UPB, hUPB⟩ : ∃ UPB : ByteArray, UPB = ⟨(wd.map Lx.up).toArray⟩ := ⟨_, rfl⟩
  obtain ⟨LOB, hLOB⟩ : ∃ LOB : ByteArray, LOB = ⟨(wd.map Lx.low).toArray⟩ := ⟨_, rfl⟩
  rw [← hUPB] at HU HLW HKW
  rw [← hLOB] at HLW hls
  have HUPB := Aside0.mk hUPB
  have HLOB := Aside0.mk hLOB
  have HEN2 := Aside0.mk hen
  clear hUPB hLOB
  have r0 := HN3.out.c0
  have r1 := HN3.out.s0
  have r2 := HN3.out.s1
  have k1 : (a0 : Int) ≤ (en : Int) := by omega
  have k2 : (en : Int) ≤ (s.size : Int) := by omega
  have k3 : (0 : Int) ≤ (en : Int) := by omega
  clear hw hen
  go_upto_region 14 with fail
  go_cut [] (fun wx => Aside0 (NX w0 w wx g s a0 0 UPB a0))
  case first =>
    go_region_with (go_at_call 35; refine (HU _).out.mono ?_; rintro e w' ⟨rfl, hb⟩; have HNb := Aside0.mk ((HN3.out.drewN 1).below hb); have hfz := HNb.out.tf 1; have htz := HNb.out.t1)
    all_goals (go_wp2_with fail; go_meet; exact ⟨HNb.out.setT _⟩)
  case rest =>
  have HN4 := hcut
  clear HN3 r0 r1 r2 HU k1
  have r0 := HN4.out.t0
  have r1 := HN4.out.tf 0
  have HN5 := Aside0.mk (HN4.out.setK 1)
  have r2 := HN5.out.t1
  have HL5 : LaidL (wc.setCell ⟨w.heap.size + 1, 0, none⟩ (.int .u8 1)) := LaidL.below HL0 HN5.out.bel
  have HK5 := HKW _ HL5
  clear HKW HL5
  cases hk : isKw (wd.map Lx.up) with
  | true =>
    have hR : nextR s a0 = ((1, UPB, (a0 : Int)), 0, en) := by
      unfold nextR
      rw [HTK.out, if_pos hk, HUPB.out, HEN2.out]
    rw [hk] at HK5
    have HRR := Aside0.mk hR
    clear hR HTK hk HLW hls
    go_wp2_with (go_at_call 36; refine HK5.out.mono ?_; rintro e w6 ⟨rfl, hb6⟩; have HN6 := Aside0.mk (HN5.out.below hb6); have y0 := HN6.out.c0; have y1 := HN6.out.s1; have y2 := HN6.out.sf 1; have HN7 := Aside0.mk (HN6.out.at_ (en : Int)); have z0 := HN7.out.t0; have z1 := HN7.out.t1; have z2 := HN7.out.t2; have z3 := HN7.out.tf 0; have z4 := HN7.out.tf 1; have z5 := HN7.out.tf 2)
    refine bodyPost_ret (results_ct rfl _ _ (w.heap.size + 1) 34 #[.int .u8 1, .string UPB, .int .i64 a0] (0, 0) _ rfl (((HN7.out.setK 1).setT UPB).setP a0).tok Tryz.underlying34 rfl (by kernel_rfl)) rfl ?_
    rw [HRR.out]
    have HN8 := ((HN7.out.setK 1).setT UPB).setP a0
    exact ⟨rfl, HN8.sc, HN8.bel, HN8.keep⟩
  | false =>
    rw [hk] at HK5
    have arm : True := trivial
    by_cases hN : 20 < N
    · have hR : nextR s a0 = ((0, ⟨#[]⟩, 0), 22, a0) := by
        unfold nextR
        rw [HTK.out, if_neg (by rw [hk]; decide), if_pos hN]
      have HRR := Aside0.mk hR
      have hNi : (20 : Int) < (N : Int) := by omega
      clear hR HTK hk
      go_wp2_with (first
        | (go_at_call 36; refine HK5.out.mono ?_; rintro e w6 ⟨rfl, hb6⟩; have HN6 := Aside0.mk (HN5.out.below hb6); have y0 := HN6.out.t1)
        | (go_at_call 37; refine (HLW _).out.mono ?_; rintro e w7 ⟨rfl, hb7⟩; have HN7 := Aside0.mk (HN6.out.below hb7); have z0 := HN7.out.t0; have z3 := HN7.out.tf 0; have HN8 := Aside0.mk (HN7.out.setK 2); have x1 := HN8.out.t1; have x4 := HN8.out.tf 1; have HN9 := Aside0.mk (HN8.out.setT LOB); have v0 := HN9.out.t0; have v1 := HN9.out.t1; have v2 := HN9.out.t2; have v3 := HN9.out.tf 0; have v4 := HN9.out.tf 1; have v5 := HN9.out.tf 2))
      have HNA := ((HN9.out.setK 0).setT ⟨#[]⟩).setP 0
      refine bodyPost_ret (results_ct rfl _ _ (w.heap.size + 1) 34 #[.int .u8 0, .string ⟨#[]⟩, .int .i64 0] (0, 0) _ rfl HNA.tok Tryz.underlying34 rfl (by kernel_rfl)) rfl ?_
      rw [HRR.out]
      exact ⟨rfl, HNA.sc, HNA.bel, HNA.keep⟩
    · have hR : nextR s a0 = ((2, LOB, (a0 : Int)), 0, en) := by
        unfold nextR
        rw [HTK.out, if_neg (by rw [hk]; decide), if_neg hN, HLOB.out, HEN2.out]
      have HRR := Aside0.mk hR
      have hNi : ¬ (20 : Int) < (N : Int) := by omega
      clear hR HTK hk
      go_wp2_with (first
        | (go_at_call 36; refine HK5.out.mono ?_; rintro e w6 ⟨rfl, hb6⟩; have HN6 := Aside0.mk (HN5.out.below hb6); have y0 := HN6.out.t1)
        | (go_at_call 37; refine (HLW _).out.mono ?_; rintro e w7 ⟨rfl, hb7⟩; have HN7 := Aside0.mk (HN6.out.below hb7); have z0 := HN7.out.t0; have z3 := HN7.out.tf 0; have HN8 := Aside0.mk (HN7.out.setK 2); have x1 := HN8.out.t1; have x4 := HN8.out.tf 1; have HN9 := Aside0.mk (HN8.out.setT LOB); have v1 := HN9.out.t1; have vy0 := HN9.out.c0; have vy1 := HN9.out.s1; have vy2 := HN9.out.sf 1; have HNC := Aside0.mk (HN9.out.at_ (en : Int)); have c0 := HNC.out.t0; have c1 := HNC.out.t1; have c2 := HNC.out.t2; have c3 := HNC.out.tf 0; have c4 := HNC.out.tf 1; have c5 := HNC.out.tf 2))
      have HNA := ((HNC.out.setK 2).setT LOB).setP a0
      refine bodyPost_ret (results_ct rfl _ _ (w.heap.size + 1) 34 #[.int .u8 2, .string LOB, .int .i64 a0] (0, 0) _ rfl HNA.tok Tryz.underlying34 rfl (by kernel_rfl)) rfl ?_
      rw [HRR.out]
      exact ⟨rfl, HNA.sc, HNA.bel, HNA.keep⟩
end Go.Proofs.YtaibkpbiccibjaaGreatDoor.PAll
