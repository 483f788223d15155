/- The scanner of layer 2: the next token, a text. -/
import Derived.Test.YtaibkpbiccibjaaGreatDoorLNext0
set_option linter.unusedVariables false
namespace Go.Proofs.YtaibkpbiccibjaaGreatDoor.PAll
open Go.RowKit Go.Proofs.YtaibkpbiccibjaaGreatDoorW.PrintWords Go.Proofs.YtaibkpbiccibjaaGreatDoorW.PrintLast Go.Proofs.YtaibkpbiccibjaaGreatDoorW.PrintMore

set_option maxHeartbeats 8000000 in
set_option maxRecDepth 100000 in
theorem next_text (g : Nat) (s : ByteArray) (a0 : Nat) (w0 w : World) (hL0 : LaidL w0) (hI : IsS43 w0 w g s a0) (hB : Below w0.heap.size w0 w) (ha : a0 < s.size) (hsz : s.size ≤ 4000) (hcls : cls s[a0] = 4) :
    Calls Tryz.prog 20 #[.pointer (some ⟨g, 0, none⟩)] w fun e w' => e = .returned (.tuple #[.agg #[.int .u8 (nextR s a0).1.1, .string (nextR s a0).1.2.1, .int .i64 (nextR s a0).1.2.2], .int .i64 (nextR s a0).2.1]) ∧
      IsS43 w0 w' g s ((nextR s a0).2.2 : Nat) ∧ Below w0.heap.size w0 w' ∧ KeepBut w w' g none := by
  have hu33 := Tryz.underlying34
  have hpos0 : 0 < w0.heap.size := (World.block_lt_of_cell? w0 _ (hL0.tab 0 (by decide)) : (⟨0, 0, none⟩ : Addr).block < w0.heap.size)
  have HL0 := Aside0.mk hL0
  clear hL0
  have HN := Aside0.mk (NX.start hI hB (a0 : Int))
  have hS := NX.start hI hB 0
  have q0 := hS.c0
  have q1 := hS.s0
  have q2 := hS.s1
  have q3 := hS.tf 2
  have r0 := HN.out.c0
  have r1 := HN.out.s0
  have r2 := HN.out.s1
  have hai : (a0 : Int) < (s.size : Int) := by omega
  have hai0 : (0 : Int) ≤ (a0 : Int) := by omega
  have HC : ∀ w1, Aside0 (Calls Tryz.prog 27 #[.int .u8 s[a0].toNat] w1 fun e w' => e = .returned (.int .i64 4) ∧ ∃ m, w' = w1.drewN m) := fun w1 => ⟨(cls_calls s[a0] w1).mono fun e w' h => by rw [hcls] at h; exact ⟨h.1, h.2.out⟩⟩
  clear hI hB hS
  go_enter Tryz.func20, Tryz.ntmps20
  go_upto_region 3 with fail
  clear q0 q1 q2 q3
  generalize ((w.alloc (Obj.cells #[Value.pointer (some { block := g, off := 0 })] 64)).alloc (Obj.cells #[Value.int IntKind.u8 0, Value.string { data := #[] }, Value.int IntKind.i64 ↑a0] 34)) = W1 at *
  go_quiet (first | (go_at_call 27; refine Calls.quiet_of (HC _).out))
  have HN2 := Aside0.mk (HN.out.drewN nq)
  clear HN r0 r1 r2 HC
  generalize W1.drewN nq = W2 at *
  have r0 := HN2.out.t0
  have r1 := HN2.out.tf 0
  have HN3 := Aside0.mk (HN2.out.setK 4)
  have r2 := HN3.out.c0
  have hT : Aside0 (Calls Tryz.prog 39 #[.pointer (some ⟨g, 0, none⟩)] (W2.setCell ⟨w.heap.size + 1, 0, none⟩ (.int .u8 4)) fun e w' => e = .returned (.tuple #[.string (textR s a0).1, .int .i64 (textR s a0).2.1, .int .i64 (textR s a0).2.2]) ∧ Below (W2.setCell ⟨w.heap.size + 1, 0, none⟩ (.int .u8 4)).heap.size (W2.setCell ⟨w.heap.size + 1, 0, none⟩ (.int .u8 4)) w') :=
    ⟨text_calls g s a0 _ HN3.out.s0 HN3.out.s1 ha hsz⟩
  have hd := drop_at ha
  have hq39 := (cls_let s[a0]).2.2.1.1 hcls
  have hlet : ¬ Lx.isLet s[a0] = true := fun h => by have := (cls_let s[a0]).1.2 h; omega
  have hdig : ¬ Lx.isDig s[a0] = true := fun h => by have := (cls_let s[a0]).2.1.2 h; omega
  have HTK : Aside0 (Lx.tokL isKw marksL (s.data.toList.drop a0) = match Lx.quo (s.data.toList.drop (a0 + 1)) with
      | none => .bad 21
      | some (x, n) => if 100 < x.length then .bad 5 else .good 4 x (n + 1)) := by
    refine ⟨?_⟩
    rw [hd]
    unfold Lx.tokL
    simp only
    rw [if_neg hlet, if_neg hdig, if_pos hq39]
    cases Lx.quo (List.drop (a0 + 1) s.data.toList) <;> rfl
  clear hd hq39 hlet hdig hcls
  have HQ : Aside0 ((∃ er : Int, er ≠ 0 ∧ textR s a0 = (⟨#[]⟩, 0, er) ∧ nextR s a0 = ((0, ⟨#[]⟩, 0), er, a0)) ∨ ∃ (x : ByteArray) (en : Nat), textR s a0 = (x, (en : Int), 0) ∧ nextR s a0 = ((4, x, (a0 : Int)), 0, en)) := by
    refine ⟨?_⟩
    unfold nextR textR
    rw [HTK.out]
    cases hq : Lx.quo (s.data.toList.drop (a0 + 1)) with
    | none => exact .inl ⟨21, by decide, rfl, rfl⟩
    | some y =>
      obtain ⟨x, n⟩ := y
      simp only
      by_cases hl : 100 < x.length
      · rw [if_pos hl, if_pos hl]; exact .inl ⟨5, by decide, rfl, rfl⟩
      · rw [if_neg hl, if_neg hl]; exact .inr ⟨_, a0 + 1 + n, rfl, by simp only [Prod.mk.injEq, true_and]; omega⟩
  clear HTK
  rcases HQ.out with ⟨er, her, hT1, hR⟩ | ⟨x, en, hT1, hR⟩
  · have HRR := Aside0.mk hR
    rw [hT1] at hT
    have hb1 : (er == 0) = false := beq_eq_false_iff_ne.mpr her
    have hb2 : (er != 0) = true := bne_iff_ne.mpr her
    clear HQ hT1 hR
    go_wp2_with (go_at_call 39; refine hT.out.mono ?_; rintro e w5 ⟨rfl, hb5⟩; have HN5 := Aside0.mk (HN3.out.below hb5); have y1 := HN5.out.t1; have y2 := HN5.out.tf 1; have HN6 := Aside0.mk (HN5.out.setT ⟨#[]⟩); have v0 := HN6.out.t0; have v1 := HN6.out.t1; have v2 := HN6.out.t2; have v3 := HN6.out.tf 0; have v4 := HN6.out.tf 1; have v5 := HN6.out.tf 2)
    have HNA := ((HN6.out.setK 0).setT ⟨#[]⟩).setP 0
    refine bodyPost_ret (results_ct rfl _ _ (w.heap.size + 1) 34 #[.int .u8 0, .string ⟨#[]⟩, .int .i64 0] (0, 0) _ rfl HNA.tok Tryz.underlying34 rfl (by kernel_rfl)) rfl ?_
    rw [HRR.out]
    exact ⟨rfl, HNA.sc, HNA.bel, HNA.keep⟩
  · have HRR := Aside0.mk hR
    rw [hT1] at hT
    clear HQ hT1 hR
    go_wp2_with (go_at_call 39; refine hT.out.mono ?_; rintro e w5 ⟨rfl, hb5⟩; have HN5 := Aside0.mk (HN3.out.below hb5); have y1 := HN5.out.t1; have y2 := HN5.out.tf 1; have HN6 := Aside0.mk (HN5.out.setT x); have u0 := HN6.out.c0; have u1 := HN6.out.s1; have u2 := HN6.out.sf 1; have HN7 := Aside0.mk (HN6.out.at_ (en : Int)); have z0 := HN7.out.t0; have z1 := HN7.out.t1; have z2 := HN7.out.t2; have z3 := HN7.out.tf 0; have z4 := HN7.out.tf 1; have z5 := HN7.out.tf 2)
    have HNA := ((HN7.out.setK 4).setT x).setP a0
    refine bodyPost_ret (results_ct rfl _ _ (w.heap.size + 1) 34 #[.int .u8 4, .string x, .int .i64 a0] (0, 0) _ rfl HNA.tok Tryz.underlying34 rfl (by kernel_rfl)) rfl ?_
    rw [HRR.out]
    exact ⟨rfl, HNA.sc, HNA.bel, HNA.keep⟩
end Go.Proofs.YtaibkpbiccibjaaGreatDoor.PAll
