/- The scanner of layer 2: the next token, a mark (a range over strings.FieldsSeq). -/
import Derived.Test.YtaibkpbiccibjaaGreatDoorLNext0
set_option linter.unusedVariables false
namespace Go.Proofs.YtaibkpbiccibjaaGreatDoor.PAll
open Go.RowKit Go.Shelf Go.Proofs.YtaibkpbiccibjaaGreatDoorW.PrintWords Go.Proofs.YtaibkpbiccibjaaGreatDoorW.PrintLast Go.Proofs.YtaibkpbiccibjaaGreatDoorW.PrintMore
attribute [local go_sem] Oper.semAt_some

def marksB : ByteArray := ⟨#[60, 62, 32, 60, 61, 32, 62, 61, 32, 124, 124, 32, 40, 32, 41, 32, 44, 32, 46, 32, 59, 32, 42, 32, 43, 32, 45, 32, 47, 32, 37, 32, 61, 32, 60, 32, 62]⟩
theorem marks_pieces : flds [] marksB.data.toList = marksL := by decide +kernel

theorem NX.own {w0 w W W' : World} {g : Nat} {s : ByteArray} {a k p : Int} {t : ByteArray} {row : Option Nat} (h : NX w0 w W g s a k t p) (hg : W.grownBy W' row) (hr : ∀ r, row = some r → w.heap.size ≤ r ∧ ∃ o : Obj, W.heap[r]? = some o ∧ o.isCells = false) : NX w0 w W' g s a k t p := by
  have key : ∀ (b : Nat) (cs : Array Value) (ty : TypeId) (fr : Nat × Nat), W.heap[b]? = some (.cells cs ty fr) → W'.heap[b]? = some (.cells cs ty fr) := by
    intro b cs ty fr hb
    rw [hg.block b (Array.getElem?_eq_some_iff.1 hb).1 ?_]
    · exact hb
    · intro e
      obtain ⟨_, o, ho, hc⟩ := hr b e.symm
      rw [hb] at ho
      cases ho
      cases hc
  refine ⟨key _ _ _ _ h.box, key _ _ _ _ h.tok, ⟨key _ _ _ _ h.sc.1, h.sc.2⟩, h.bel.grown hg h.bel.size (fun j e => Nat.le_trans h.base (hr j e).1), ?_, h.lt⟩
  refine KeepBut.trans h.keep (KeepBut.of_grown hg g) ?_
  cases row with
  | none => exact .inl rfl
  | some r => exact .inr ⟨r, rfl, (hr r rfl).1⟩
theorem NX.ownFrom {β : Type} {w0 w : World} {g : Nat} {s : ByteArray} {a k p : Int} {t : ByteArray} {Bd : Nat} (hB : w.heap.size ≤ Bd) : OwnFrom (β := β) Bd (fun _ W => NX w0 w W g s a k t p) :=
  fun _ W W' row h hg hr => h.own hg (fun r e => ⟨Nat.le_trans hB (hr r e).1, (hr r e).2⟩)

/-- No mark of a list begins the rest. -/
def noMark (l : List UInt8) (pre : List ByteArray) : Prop := ∀ y ∈ pre, Lib.hasPrefix l y.data.toList = false
theorem mark_ret {R : Ending → World → Prop} {a : Act} {w0 w W : World} {g D : Nat} {s : ByteArray} {at' k p : Int} {t : ByteArray} {er : Value} (hdef : a.defers = [{ target := .collected D, args := #[] }]) (h2 : a.tmps.getD 2 undef = .pointer (some ⟨w.heap.size + 1, 0, none⟩)) (h3 : a.tmps.getD 3 undef = er)
    (HN : NX w0 w W g s at' k t p) (hD : w.heap.size ≤ D) (hK : W.heap[D]? = some (.deferred (some []))) (hR : ∀ W', NX w0 w W' g s at' k t p → R (.returned (.tuple #[.agg #[.int .u8 k, .string t, .int .i64 p], er])) W') :
    bodyPostM Fence.wide 8 Tryz.prog Tryz.f20 R .ret a W := by
  show LeavesInM Fence.wide 8 Tryz.prog Tryz.f20 a.tmps R a.defers .returning W
  rw [hdef]
  have HN' : NX w0 w (W.putObj D (.deferred none)) g s at' k t p := HN.own (grownBy_putObj' _ D (.deferred none)) (fun r e => by cases e; exact ⟨hD, _, hK, rfl⟩)
  refine ⟨by simp, .inl ⟨_, _, rfl, run_takeDeferred hK, ?_⟩⟩
  refine ⟨.tuple #[.agg #[.int .u8 k, .string t, .int .i64 p], er], ?_, hR _ HN'⟩
  have := results_ct (P := Tryz.prog) (fn := Tryz.f20) rfl a.tmps (W.putObj D (.deferred none)) (w.heap.size + 1) 34 #[.int .u8 k, .string t, .int .i64 p] (0, 0) _ h2 HN'.tok Tryz.underlying34 rfl (by kernel_rfl)
  rw [h3] at this
  exact this

theorem find_none {l : List UInt8} (h : noMark l (pieces marksB)) : marksL.find? (fun m => m.isPrefixOf l) = none := by
  rw [List.find?_eq_none]
  intro m hm
  have hm2 : (⟨m.toArray⟩ : ByteArray) ∈ pieces marksB := by
    unfold pieces
    rw [marks_pieces]
    exact List.mem_map.2 ⟨m, hm, rfl⟩
  have := h _ hm2
  unfold Lib.hasPrefix at this
  show ¬ (m.isPrefixOf l = true)
  rw [show m.isPrefixOf l = false from this]
  decide
theorem find_some {l : List UInt8} {p : List ByteArray} {x : ByteArray} (hp : p ++ [x] <+: pieces marksB) (h : noMark l p) (hx : Lib.hasPrefix l x.data.toList = true) : marksL.find? (fun m => m.isPrefixOf l) = some x.data.toList := by
  obtain ⟨r, hr⟩ := hp
  have e : marksL = (pieces marksB).map (fun b => b.data.toList) := by
    unfold pieces
    rw [List.map_map, marks_pieces]
    exact (List.map_id _).symm
  rw [e, ← hr, List.append_assoc, List.map_append, List.find?_append]
  have h1 : (p.map fun b => b.data.toList).find? (fun m => m.isPrefixOf l) = none := by
    rw [List.find?_eq_none]
    intro m hm
    obtain ⟨y, hy, rfl⟩ := List.mem_map.1 hm
    have := h y hy
    unfold Lib.hasPrefix at this
    show ¬ (y.data.toList.isPrefixOf l = true)
    rw [this]
    decide
  rw [h1]
  unfold Lib.hasPrefix at hx
  simp [hx]


set_option maxHeartbeats 8000000 in
set_option maxRecDepth 100000 in
theorem next_mark (g : Nat) (s : ByteArray) (a0 : Nat) (w0 w : World) (hL0 : LaidL w0) (hI : IsS43 w0 w g s a0) (hB : Below w0.heap.size w0 w) (ha : a0 < s.size) (hsz : s.size ≤ 4000) (hc2 : cls s[a0] ≠ 2) (hc3 : cls s[a0] ≠ 3) (hc4 : cls s[a0] ≠ 4) :
    Calls Tryz.prog 20 #[.pointer (some ⟨g, 0, none⟩)] w fun e w' => e = .returned (.tuple #[.agg #[.int .u8 (nextR s a0).1.1, .string (nextR s a0).1.2.1, .int .i64 (nextR s a0).1.2.2], .int .i64 (nextR s a0).2.1]) ∧
      IsS43 w0 w' g s ((nextR s a0).2.2 : Nat) ∧ Below w0.heap.size w0 w' ∧ KeepBut w w' g none := by
  have hu33 := Tryz.underlying34
  have hpos0 : 0 < w0.heap.size := (World.block_lt_of_cell? w0 _ (hL0.tab 0 (by decide)) : (⟨0, 0, none⟩ : Addr).block < w0.heap.size)
  have HL0 := Aside0.mk hL0
  clear hL0
  have HN := Aside0.mk (NX.start hI hB (a0 : Int))
  have hS := NX.start hI hB 0
  have q0 := hS.c0
  have q1 := hS.s0
  have q2 := hS.s1
  have q3 := hS.tf 2
  have r0 := HN.out.c0
  have r1 := HN.out.s0
  have r2 := HN.out.s1
  have hai : (a0 : Int) < (s.size : Int) := by omega
  have hai0 : (0 : Int) ≤ (a0 : Int) := by omega
  have HC : ∀ w1, Aside0 (Calls Tryz.prog 27 #[.int .u8 s[a0].toNat] w1 fun e w' => e = .returned (.int .i64 (cls s[a0])) ∧ ∃ m, w' = w1.drewN m) := fun w1 => ⟨(cls_calls s[a0] w1).mono fun e w' h => ⟨h.1, h.2.out⟩⟩
  clear hI hB hS
  refine (callsIn_wide (n := 8)).1 ?_
  refine callsIn_of_wp_marks Tryz.func20 rfl trivial ?_ rfl
  simp only [Tryz.ntmps20, List.size_toArray, List.length_cons, List.length_nil, Nat.reduceAdd, Nat.reduceSub, Array.replicate_succ, Array.replicate_zero, List.push_toArray, List.append_toArray, List.nil_append, List.cons_append]
  refine wpIn_wide.2 ?_
  go_upto_region 3 with fail
  clear q0 q1 q2 q3
  generalize ((w.alloc (Obj.cells #[Value.pointer (some { block := g, off := 0 })] 64)).alloc (Obj.cells #[Value.int IntKind.u8 0, Value.string { data := #[] }, Value.int IntKind.i64 ↑a0] 34)) = W1 at *
  go_quiet (first | (go_at_call 27; refine Calls.quiet_of (HC _).out))
  have HN2 := Aside0.mk (HN.out.drewN nq)
  clear HN r0 r1 r2 HC
  generalize W1.drewN nq = W2 at *
  have r0 := HN2.out.t0
  have r1 := HN2.out.tf 0
  have HN3 := Aside0.mk (HN2.out.setK 5)
  have d2 : (cls s[a0] == 2) = false := beq_eq_false_iff_ne.mpr hc2
  have d3 : (cls s[a0] == 3) = false := beq_eq_false_iff_ne.mpr hc3
  have d4 : (cls s[a0] == 4) = false := beq_eq_false_iff_ne.mpr hc4
  have HMK : ∀ w1, Aside0 (Calls Tryz.prog 40 #[.string ⟨#[60, 62, 32, 60, 61, 32, 62, 61, 32, 124, 124, 32, 40, 32, 41, 32, 44, 32, 46, 32, 59, 32, 42, 32, 43, 32, 45, 32, 47, 32, 37, 32, 61, 32, 60, 32, 62]⟩] w1 fun e w' => e = .returned (.func (.func 57) #[] #[.pointer (some ⟨w1.heap.size, 0, none⟩)]) ∧ w' = w1.alloc (.cells #[.string marksB] 9)) := fun w1 => ⟨fields_mk marksB w1⟩
  go_wp2_with (go_at_call 40; refine (HMK _).out.mono ?_; rintro e w' ⟨rfl, rfl⟩)
  have hs23 : W2.heap.size = (W2.setCell ⟨w.heap.size + 1, 0, none⟩ (.int .u8 5)).heap.size := by simp [World.setCell]
  rw [hs23]
  clear r0 r1 HN2 hs23 HMK
  generalize (W2.setCell ⟨w.heap.size + 1, 0, none⟩ (.int .u8 5)) = W3 at *
  have hB3 : w.heap.size + 1 < W3.heap.size := blk_lt HN3.out.tok
  have hasc : ∀ b ∈ marksB.data.toList, b.toNat < 128 := by
    have : marksB.data.toList.all (fun b => decide (b.toNat < 128)) = true := by decide +kernel
    intro b hb
    exact of_decide_eq_true (List.all_eq_true.1 this b hb)
  have hms : marksB.size = 37 := rfl
  have HN4 := Aside0.mk (HN3.out.alloc (.cells #[.string marksB] 9))
  have hLd : LaidL (W3.alloc (.cells #[.string marksB] 9)) := LaidL.below HL0 HN4.out.bel
  have hbx := (cell_new_b W3 (.string marksB) 9).1
  have hpre : ∀ x : ByteArray, ∀ w1 : World, Aside0 (Calls Tryz.prog 32 #[.string (s.extract a0 s.size), .string x] w1 fun e w' => e = .returned (.bool (Lib.hasPrefix (s.data.toList.drop a0) x.data.toList)) ∧ w' = w1) := by
    intro x w1
    have := Tryz.strings_HasPrefix (s.extract a0 s.size) x w1
    rw [drop_bytes] at this
    exact ⟨this⟩
  have hTK : Lx.tokL isKw marksL (s.data.toList.drop a0) = match marksL.find? (fun m => m.isPrefixOf (s.data.toList.drop a0)) with
      | none => .bad 20
      | some m => .good 5 m m.length := by
    have hlet : ¬ Lx.isLet s[a0] = true := fun h => hc2 ((cls_let s[a0]).1.2 h)
    have hdig : ¬ Lx.isDig s[a0] = true := fun h => hc3 ((cls_let s[a0]).2.1.2 h)
    have hq : ¬ s[a0].toNat = 39 := fun h => hc4 ((cls_let s[a0]).2.2.1.2 h)
    rw [drop_at ha]
    unfold Lx.tokL
    simp only
    rw [if_neg hlet, if_neg hdig, if_neg hq]
    cases marksL.find? (fun m => m.isPrefixOf (s[a0] :: s.data.toList.drop (a0 + 1))) <;> rfl
  have HTK := Aside0.mk hTK
  clear hTK
  refine (wpIn_wide (n := 8)).1 ?_
  refine wpIn_rangeFunc_ownF rfl (by omega) (gf := 57) (lb := #[.pointer (some ⟨W3.heap.size, 0, none⟩)]) rfl trivial (enters_of Tryz.func57 (by kernel_rfl) rfl)
    (fields_stops Fence.wide (8 - 1) trivial rfl (by omega) W3.heap.size w.heap.size marksB hasc (by rw [hms]; omega) _ (by simp) (by simp; omega) (by have := HN3.out.base; omega) hbx hLd.tab) (fun h k => KpF.t h k) (KpF.b (by simp; omega) (by simp)) (Below.refl _ _) (fun _ => rfl)
    (fun pre W => noMark (s.data.toList.drop a0) pre ∧ NX w0 w W g s a0 5 ⟨#[]⟩ a0)
    (fun c pre W => c = .exit 1 ∧ ∃ p x, pre = p ++ [x] ∧ noMark (s.data.toList.drop a0) p ∧ Lib.hasPrefix (s.data.toList.drop a0) x.data.toList = true ∧ NX w0 w W g s a0 5 x a0)
    (fun pre W W' row hs hg hr => ⟨hs.1, hs.2.own hg (fun r e => ⟨by have := (hr r e).1; simp at this; omega, (hr r e).2⟩)⟩)
    (fun c pre W W' row hs hg hr => by
      obtain ⟨h1, p, x, h2, h3, h4, h5⟩ := hs
      exact ⟨h1, p, x, h2, h3, h4, h5.own hg (fun r e => ⟨by have := (hr r e).1; simp at this; omega, (hr r e).2⟩)⟩)
    ⟨fun y hy => by simp at hy, HN4.out⟩
    ?a1 ?assign ?body ?done ?stop
  case assign =>
    intro l x W K hK
    gi_wp2
    exact hK
  case body =>
    rintro l pre x W ⟨hp, hNX⟩ _
    have y0 := hNX.c0
    have HRS : Aside0 (Calls Tryz.prog 33 #[.pointer (some ⟨g, 0, none⟩)] W fun e w' => e = .returned (.string (s.extract a0 s.size)) ∧ ∃ n, w' = W.drewN n) := ⟨rest_calls g s a0 W hNX.s0 hNX.s1 (by omega)⟩
    have HPX := hpre x
    have t1 := hNX.t1
    have tf := hNX.tf 1
    have HNX := Aside0.mk hNX
    have HNM := Aside0.mk hp
    clear hpre hNX hp
    cases hh : Lib.hasPrefix (s.data.toList.drop a0) x.data.toList with
    | true =>
      rw [hh] at HPX
      gi_wp2_with (first
        | (refine ⟨trivial, ?_⟩; gi_at_call 33; refine (CallsIn.inRound l (callsIn_wide.2 HRS.out)).mono ?_; rintro e w' ⟨rfl, ⟨n, rfl⟩⟩)
        | (refine ⟨trivial, ?_⟩; gi_at_call 32; refine (CallsIn.inRound l (callsIn_wide.2 (HPX _).out)).mono ?_; rintro e w' ⟨rfl, hw'⟩; rw [hw']))
      exact ⟨KeepsOthers.trans (show KeepsOthers W (W.drewN n) from ⟨Nat.le_refl _, fun _ _ h _ => h⟩) (KeepsOthers.setCell _ _ _), rfl, pre, x, rfl, HNM.out, hh, (HNX.out.drewN _).setT x⟩
    | false =>
      rw [hh] at HPX
      gi_wp2_with (first
        | (refine ⟨trivial, ?_⟩; gi_at_call 33; refine (CallsIn.inRound l (callsIn_wide.2 HRS.out)).mono ?_; rintro e w' ⟨rfl, ⟨n, rfl⟩⟩)
        | (refine ⟨trivial, ?_⟩; gi_at_call 32; refine (CallsIn.inRound l (callsIn_wide.2 (HPX _).out)).mono ?_; rintro e w' ⟨rfl, hw'⟩; rw [hw']))
      refine ⟨⟨Nat.le_refl _, fun _ _ h _ => h⟩, ⟨pw_below_drewN (Below.refl _ _) _, rfl⟩, ?_, HNX.out.drewN _⟩
      intro y hy
      rcases List.mem_append.1 hy with h | h
      · exact HNM.out y h
      · simp at h; subst h; exact hh
  case done =>
    rintro D ys W hD rfl ⟨hne, hNX⟩ hK
    have u1 := hNX.t1
    have v0 := hNX.t0
    have v2 := hNX.t2
    have v3 := hNX.tf 0
    have v4 := hNX.tf 1
    have v5 := hNX.tf 2
    have HNX := Aside0.mk hNX
    have HNE := Aside0.mk hne
    have HKK := Aside0.mk hK
    clear hNX hne hpre hK hasc hLd hbx
    have hR : nextR s a0 = ((0, ⟨#[]⟩, 0), 20, a0) := by
      unfold nextR
      rw [HTK.out, find_none HNE.out]
    have HRR := Aside0.mk hR
    clear hR
    go_wp2
    refine mark_ret (k := 0) (t := ⟨#[]⟩) (p := 0) rfl rfl rfl (((HNX.out.setK 0).setT ⟨#[]⟩).setP 0) (by simp at hD; omega) ?_ ?_
    · exact ((KeepsOthers.setCell _ _ _).trans ((KeepsOthers.setCell _ _ _).trans (KeepsOthers.setCell _ _ _))).same D _ HKK.out rfl
    · intro W' hW'
      rw [HRR.out]
      exact ⟨rfl, hW'.sc, hW'.bel, hW'.keep⟩
  case stop =>
    rintro D c pre W hD hpx2 ⟨rfl, p, x, hpx, hnm, hhp, hNX⟩ hK
    subst hpx
    have hfs := find_some hpx2 hnm hhp
    have hx1 : x.data.toList ∈ marksL := List.mem_of_find?_eq_some hfs
    have hxl : 1 ≤ x.data.toList.length ∧ x.data.toList.length ≤ 2 := by
      have : ∀ m ∈ marksL, 1 ≤ m.length ∧ m.length ≤ 2 := by decide
      exact this _ hx1
    have hxs : x.data.toList.length = x.size := by simp
    have hxne : ¬ x.toList = ([] : List UInt8) := fun e => by
      rw [Lib.toList_data] at e
      rw [e] at hxl
      simp at hxl
    have hxb : (x.toList == ([] : List UInt8)) = false := beq_eq_false_iff_ne.mpr hxne
    have hw : IntKind.i64.wrap ((a0 : Int) + (x.size : Int)) = ((a0 + x.size : Nat) : Int) := by rw [IntKind.wrap_i64]; omega
    have hR : nextR s a0 = ((5, x, (a0 : Int)), 0, a0 + x.size) := by
      unfold nextR
      rw [HTK.out, hfs]
      simp only [hxs]
    have HRR := Aside0.mk hR
    obtain ⟨en, hen⟩ : ∃ en, en = a0 + x.size := ⟨_, rfl⟩
    rw [← hen] at hw HRR
    have u1 := hNX.t1
    have u2 := hNX.c0
    have u3 := hNX.s1
    have u4 := hNX.sf 1
    have HN7 := Aside0.mk (hNX.at_ (en : Int))
    have z0 := HN7.out.t0
    have z1 := HN7.out.t1
    have z2 := HN7.out.t2
    have z3 := HN7.out.tf 0
    have z4 := HN7.out.tf 1
    have z5 := HN7.out.tf 2
    have HKK := Aside0.mk hK
    clear hNX hpre hK hasc hLd hbx hR hfs hx1 hxl hxs hhp hpx2 hnm hen
    refine wpIn_wide.2 ?_
    go_wp2
    refine mark_ret (k := 5) (t := x) (p := a0) rfl rfl rfl (((HN7.out.setK 5).setT x).setP a0) (by simp at hD; omega) ?_ ?_
    · exact ((KeepsOthers.setCell _ _ _).trans ((KeepsOthers.setCell _ _ _).trans ((KeepsOthers.setCell _ _ _).trans (KeepsOthers.setCell _ _ _)))).same D _ HKK.out rfl
    · intro W' hW'
      rw [HRR.out]
      exact ⟨rfl, hW'.sc, hW'.bel, hW'.keep⟩
end Go.Proofs.YtaibkpbiccibjaaGreatDoor.PAll
