import Derived.Test.YthgfdnffnbclpaaGreatDoorSQG19
import Derived.Test.YthgfdnffnbclpaaGreatDoorSQG12
set_option linter.unusedVariables false
set_option linter.unusedSimpArgs false
namespace Go.Proofs.YthgfdnffnbclpaaGreatDoor.PAll
open Go.RowKit Go.Proofs.YthgfdnffnbclpaaGreatDoorW.PrintWords Go.Proofs.YthgfdnffnbclpaaGreatDoorW.PrintLast Go.Proofs.YthgfdnffnbclpaaGreatDoorW.PrintMore
theorem isName_walk (s : ByteArray) (w : World) (hL : LaidL w) : Calls Tryz.prog 52 #[.string s] w fun e w' => e = .returned (.bool (nmB s)) ∧ Below w.heap.size w w' := lex_IsName.calls 40 s _ w (name_is s 40 (Nat.le_refl _)) hL
def plainB (x : S109) : Bool := !x.f2 && (x.f3 == 0 && x.f4 == 0)
def defB (x : S109) : Bool :=
 nmB x.f0 && (if x.f1 = 0 then plainB x || (x.f2 && decide (x.f3 ≤ x.f4)) else if x.f1 = 2 then plainB x || (x.f2 && (x.f3 == 0 && (decide (0 ≤ x.f4) && decide (x.f4 ≤ 100)))) else if x.f1 = 1 ∨ x.f1 = 3 then plainB x else false)
def namesB (l : List ByteArray) : Bool := decide (0 < l.length) && l.all nmB
def refdB (r : S105) : Bool := namesB r.f0 && (namesB r.f2 && nmB r.f1)
theorem def_cells (w : World) : ∀ (a b c d e f : Value) (W : World), Below (w.alloc (Obj.cells #[a, b, c, d, e, f] 109)).heap.size (w.alloc (Obj.cells #[a, b, c, d, e, f] 109)) W →
  W.cell? ⟨w.heap.size, 0, none⟩ = some a ∧ W.cell? ⟨w.heap.size, 1, none⟩ = some b ∧ W.cell? ⟨w.heap.size, 2, none⟩ = some c ∧ W.cell? ⟨w.heap.size, 3, none⟩ = some d ∧ W.cell? ⟨w.heap.size, 4, none⟩ = some e ∧ W.cell? ⟨w.heap.size, 5, none⟩ = some f := fun a b c d e f W hW => by
 have hb := Go.Deep.blk_alloc_new w (Obj.cells #[a, b, c, d, e, f] 109)
 have hb2 := (hW.block w.heap.size (blk_lt hb)).trans hb
 exact ⟨(blk_cell hb2 0).trans rfl, (blk_cell hb2 1).trans rfl, (blk_cell hb2 2).trans rfl, (blk_cell hb2 3).trans rfl, (blk_cell hb2 4).trans rfl, (blk_cell hb2 5).trans rfl⟩
set_option maxHeartbeats 4000000 in
set_option maxRecDepth 100000 in
theorem validDef_walk (x : S109) (w : World) (hL : LaidL w) : Calls Tryz.prog 55 #[.agg #[.string x.f0, .int .u8 x.f1, .bool x.f2, .int .i64 x.f3, .int .i64 x.f4, .bool x.f5]] w fun e w' => e = .returned (.bool (defB x)) ∧ Below w.heap.size w w' := by
 have HC := Aside0.mk (def_cells w)
 have hb0 : ∀ o, Below w.heap.size w (w.alloc o) := fun o => (Below.refl _ _).alloc (Nat.le_refl _) _
 have HN : Aside0 (∀ a b c d e f : Value, Calls Tryz.prog 52 #[.string x.f0] (w.alloc (Obj.cells #[a, b, c, d, e, f] 109)) fun e_ w' => e_ = .returned (.bool (nmB x.f0)) ∧ Below (w.alloc (Obj.cells #[a, b, c, d, e, f] 109)).heap.size (w.alloc (Obj.cells #[a, b, c, d, e, f] 109)) w') := ⟨fun a b c d e f => isName_walk x.f0 _ (LaidL.below ⟨hL⟩ (hb0 _))⟩
 have HB := Aside0.mk hb0
 clear hL hb0
 unfold defB plainB
 obtain ⟨f0, f1, f2, f3, f4, f5⟩ := x
 simp only at HN ⊢
 cases hn : nmB f0 with
 | false =>
  rw [hn] at HN
  clear hn
  rw [Bool.false_and]
  go_enter Tryz.func55, Tryz.ntmps55
  go_wp2_with (go_at_call 52; refine (HN.out _ _ _ _ _ _).mono ?_; rintro e w1 ⟨rfl, hb1⟩; obtain ⟨z0, z1, z2, z3, z4, z5⟩ := HC.out _ _ _ _ _ _ _ hb1)
  all_goals (go_ret; first | exact ⟨rfl, below_step (HB.out _) hb1⟩ | exact ⟨rfl, HB.out _⟩)
 | true =>
  rw [hn] at HN
  clear hn
  go_enter Tryz.func55, Tryz.ntmps55
  go_wp2_with (go_at_call 52; refine (HN.out _ _ _ _ _ _).mono ?_; rintro e w1 ⟨rfl, hb1⟩; obtain ⟨z0, z1, z2, z3, z4, z5⟩ := HC.out _ _ _ _ _ _ _ hb1)
  all_goals (go_ret; clear HN HC)
  all_goals (first | exact ⟨by simp_all <;> omega, below_step (HB.out _) hb1⟩ | exact ⟨by simp_all <;> omega, HB.out _⟩)
set_option maxRecDepth 100000 in
theorem notDef_walk (x : S109) (w : World) (hL : LaidL w) : Calls Tryz.prog 54 #[.agg #[.string x.f0, .int .u8 x.f1, .bool x.f2, .int .i64 x.f3, .int .i64 x.f4, .bool x.f5]] w fun e w' => e = .returned (.bool (!defB x)) ∧ Below w.heap.size w w' := by
 have hb0 : Below w.heap.size w (w.alloc (Obj.cells #[.string x.f0, .int .u8 x.f1, .bool x.f2, .int .i64 x.f3, .int .i64 x.f4, .bool x.f5] 109)) := (Below.refl _ _).alloc (Nat.le_refl _) _
 have HN := Aside0.mk (validDef_walk x _ (LaidL.below ⟨hL⟩ hb0))
 have HB := Aside0.mk hb0
 clear hL hb0
 go_enter Tryz.func54, Tryz.ntmps54
 go_wp2_with (go_at_call 55; refine HN.out.mono ?_; rintro e w1 ⟨rfl, hb1⟩)
 go_ret
 exact ⟨rfl, below_step HB.out hb1⟩
theorem notName_walk (s : ByteArray) (w : World) (hL : LaidL w) : Calls Tryz.prog 113 #[.string s] w fun e w' => e = .returned (.bool (!nmB s)) ∧ Below w.heap.size w w' := by
 have HN := Aside0.mk (isName_walk s w hL)
 clear hL
 go_enter Tryz.func113, Tryz.ntmps113
 go_wp2_with (go_at_call 52; refine HN.out.mono ?_; rintro e w1 ⟨rfl, hb1⟩)
 go_ret
 exact ⟨rfl, hb1⟩
theorem any_not {α : Type} (p : α → Bool) (l : List α) : (!(l.any fun x => !p x)) = l.all p := by
 induction l with
 | nil => rfl
 | cons a r ih => rw [List.any_cons, List.all_cons, ← ih]; cases p a <;> simp
set_option maxRecDepth 100000 in
theorem validNames_walk (A : Option Addr) (c : Nat) (l : List ByteArray) (w : World) (hC : Kd.C Kd.string w A l.length l) (hc : l.length ≤ c) (hL : LaidL w) : Calls Tryz.prog 58 #[.slice A l.length c] w fun e w' => e = .returned (.bool (namesB l)) ∧ Below w.heap.size w w' := by
 have HN := Aside0.mk (conN_walk A c l (fun s => !nmB s) w hC hc (fun s _ W hW => notName_walk s W (LaidL.below ⟨hL⟩ hW)))
 have HE := Aside0.mk (any_not nmB l)
 clear hC hL
 unfold namesB
 generalize (l.any fun s => !nmB s) = q at *
 go_enter Tryz.func58, Tryz.ntmps58
 by_cases h : 0 < l.length
 ·have d1 : decide (0 < l.length) = true := decide_eq_true h
  rw [d1, Bool.true_and, ← HE.out]
  clear h
  go_wp2_with (go_at_call 112; refine HN.out.mono ?_; rintro e w1 ⟨rfl, hb1⟩)
  go_ret
  exact ⟨rfl, hb1⟩
 ·have d1 : decide (0 < l.length) = false := decide_eq_false h
  rw [d1, Bool.false_and]
  clear h HE
  go_wp2
  go_ret
  exact ⟨rfl, Below.refl _ _⟩
theorem notNames_walk (A : Option Addr) (c : Nat) (l : List ByteArray) (w : World) (hC : Kd.C Kd.string w A l.length l) (hc : l.length ≤ c) (hL : LaidL w) : Calls Tryz.prog 57 #[.slice A l.length c] w fun e w' => e = .returned (.bool (!namesB l)) ∧ Below w.heap.size w w' := by
 have HN := Aside0.mk (validNames_walk A c l w hC hc hL)
 clear hC hL
 go_enter Tryz.func57, Tryz.ntmps57
 go_wp2_with (go_at_call 58; refine HN.out.mono ?_; rintro e w1 ⟨rfl, hb1⟩)
 go_ret
 exact ⟨rfl, hb1⟩
theorem ref_cells (w : World) (a b c : Value) : ∀ (W : World), Below (w.alloc (Obj.cells #[a, b, c] 105)).heap.size (w.alloc (Obj.cells #[a, b, c] 105)) W →
  W.cell? ⟨w.heap.size, 0, none⟩ = some a ∧ W.cell? ⟨w.heap.size, 1, none⟩ = some b ∧ W.cell? ⟨w.heap.size, 2, none⟩ = some c := fun W hW => by
 have hb := Go.Deep.blk_alloc_new w (Obj.cells #[a, b, c] 105)
 have hb2 := (hW.block w.heap.size (blk_lt hb)).trans hb
 exact ⟨(blk_cell hb2 0).trans rfl, (blk_cell hb2 1).trans rfl, (blk_cell hb2 2).trans rfl⟩
set_option maxHeartbeats 4000000 in
set_option maxRecDepth 100000 in
theorem notRef_walk (A : Option Addr) (c : Nat) (A2 : Option Addr) (c2 : Nat) (x : S105) (w : World) (hC : Kd.C Kd.string w A x.f0.length x.f0) (hc : x.f0.length ≤ c) (hC2 : Kd.C Kd.string w A2 x.f2.length x.f2) (hc2 : x.f2.length ≤ c2) (hL : LaidL w) :
  Calls Tryz.prog 60 #[.agg #[.slice A x.f0.length c, .string x.f1, .slice A2 x.f2.length c2]] w fun e w' => e = .returned (.bool (!refdB x)) ∧ Below w.heap.size w w' := by
 have hb0 : Below w.heap.size w (w.alloc (Obj.cells #[.slice A x.f0.length c, .string x.f1, .slice A2 x.f2.length c2] 105)) := (Below.refl _ _).alloc (Nat.le_refl _) _
 have HN1 : Aside0 (∀ W, Below w.heap.size w W → Calls Tryz.prog 58 #[.slice A x.f0.length c] W fun e w' => e = .returned (.bool (namesB x.f0)) ∧ Below W.heap.size W w') := ⟨fun W hW => validNames_walk A c x.f0 W (Kd.C_below hC hW) hc (LaidL.below ⟨hL⟩ hW)⟩
 have HN2 : Aside0 (∀ W, Below w.heap.size w W → Calls Tryz.prog 58 #[.slice A2 x.f2.length c2] W fun e w' => e = .returned (.bool (namesB x.f2)) ∧ Below W.heap.size W w') := ⟨fun W hW => validNames_walk A2 c2 x.f2 W (Kd.C_below hC2 hW) hc2 (LaidL.below ⟨hL⟩ hW)⟩
 have HN3 : Aside0 (∀ W, Below w.heap.size w W → Calls Tryz.prog 52 #[.string x.f1] W fun e w' => e = .returned (.bool (nmB x.f1)) ∧ Below W.heap.size W w') := ⟨fun W hW => isName_walk x.f1 W (LaidL.below ⟨hL⟩ hW)⟩
 have HR := Aside0.mk (ref_cells w (.slice A x.f0.length c) (.string x.f1) (.slice A2 x.f2.length c2))
 have HB := Aside0.mk hb0
 clear hC hC2 hL hb0
 unfold refdB
 generalize namesB x.f0 = q1 at *
 generalize namesB x.f2 = q2 at *
 generalize nmB x.f1 = q3 at *
 have HB1 : Aside0 (Below (w.alloc (Obj.cells #[.slice A x.f0.length c, .string x.f1, .slice A2 x.f2.length c2] 105)).heap.size (w.alloc (Obj.cells #[.slice A x.f0.length c, .string x.f1, .slice A2 x.f2.length c2] 105)) (w.alloc (Obj.cells #[.slice A x.f0.length c, .string x.f1, .slice A2 x.f2.length c2] 105))) := ⟨Below.refl _ _⟩
 go_enter Tryz.func60, Tryz.ntmps60
 cases q1 with
 | false =>
  go_wp2_with (go_at_call 58; refine (HN1.out _ HB.out).mono ?_; rintro e w1 ⟨rfl, hb1⟩)
  go_ret
  exact ⟨rfl, below_step HB.out hb1⟩
 | true =>
  cases q2 with
  | false =>
   go_wp2_with (first
    | (go_at_call 58; refine (HN1.out _ HB.out).mono ?_; rintro e w1 ⟨rfl, hb1⟩; obtain ⟨z0, z1, z2⟩ := HR.out _ hb1; clear HN1)
    | (go_at_call 58; refine (HN2.out _ (below_step HB.out hb1)).mono ?_; rintro e w2 ⟨rfl, hb2⟩))
   go_ret
   exact ⟨rfl, below_step (below_step HB.out hb1) hb2⟩
  | true =>
   go_wp2_with (first
    | (go_at_call 58; refine (HN1.out _ HB.out).mono ?_; rintro e w1 ⟨rfl, hb1⟩; obtain ⟨z0, z1, z2⟩ := HR.out _ hb1; clear HN1)
    | (go_at_call 58; refine (HN2.out _ (below_step HB.out hb1)).mono ?_; rintro e w2 ⟨rfl, hb2⟩; obtain ⟨y0, y1, y2⟩ := HR.out _ (below_step hb1 hb2))
    | (go_at_call 52; refine (HN3.out _ (below_step (below_step HB.out hb1) hb2)).mono ?_; rintro e w3 ⟨rfl, hb3⟩))
   go_ret
   exact ⟨by simp, below_step (below_step (below_step HB.out hb1) hb2) hb3⟩
def madeC (x : S109) : S78 :=
 ⟨x.f0, if x.f1 = 0 then 1 else if x.f1 = 1 then 1 else if x.f1 = 2 then 2 else 3, x.f5,
  if x.f2 = true then x.f3 else if x.f1 = 0 then -2147483648 else if x.f1 = 1 then -9223372036854775808 else 0,
  if x.f2 = true then x.f4 else if x.f1 = 0 then 2147483647 else if x.f1 = 1 then 9223372036854775807 else if x.f1 = 2 then 100 else 0⟩
theorem three (w : World) {W : World} {A B C : Array Value} {t1 t2 t3 : TypeId} (hW : ((w.alloc (Obj.cells A t1)).alloc (Obj.cells B t2)).alloc (Obj.cells C t3) = W) :
  W.heap[w.heap.size]? = some (.cells A t1 (0, 0)) ∧ W.heap[w.heap.size + 1]? = some (.cells B t2 (0, 0)) ∧ W.heap[w.heap.size + 1 + 1]? = some (.cells C t3 (0, 0)) ∧ Below w.heap.size w W := by
 subst hW
 have s1 : (w.alloc (Obj.cells A t1)).heap.size = w.heap.size + 1 := Array.size_push _
 have s2 : ((w.alloc (Obj.cells A t1)).alloc (Obj.cells B t2)).heap.size = w.heap.size + 1 + 1 := by rw [← s1]; exact Array.size_push _
 have h1 := Go.Deep.blk_alloc_new w (Obj.cells A t1)
 have h2 := Go.Deep.blk_alloc_new (w.alloc (Obj.cells A t1)) (Obj.cells B t2)
 have h3 := Go.Deep.blk_alloc_new ((w.alloc (Obj.cells A t1)).alloc (Obj.cells B t2)) (Obj.cells C t3)
 rw [s1] at h2
 rw [s2] at h3
 exact ⟨blk_alloc (blk_alloc h1 _) _, blk_alloc h2 _, h3, below_alloc (below_alloc (below_alloc (Below.refl _ _) _) _) _⟩
theorem five {W : World} {g t : Nat} {a b c d e : Value} (h : W.heap[g]? = some (.cells #[a, b, c, d, e] t (0, 0))) (a' b' c' d' e' : Value) :
  (((((W.setCell ⟨g, 0, none⟩ a').setCell ⟨g, 1, none⟩ b').setCell ⟨g, 2, none⟩ c').setCell ⟨g, 3, none⟩ d').setCell ⟨g, 4, none⟩ e').heap[g]? = some (.cells #[a', b', c', d', e'] t (0, 0)) :=
 blk_put (blk_put (blk_put (blk_put (blk_put h 0 _ rfl) 1 _ rfl) 2 _ rfl) 3 _ rfl) 4 _ rfl
theorem five_at {W : World} {g t : Nat} {a b c d e : Value} (h : W.heap[g]? = some (.cells #[a, b, c, d, e] t (0, 0))) :
  W.cell? ⟨g, 0, none⟩ = some a ∧ W.cell? ⟨g, 1, none⟩ = some b ∧ W.cell? ⟨g, 2, none⟩ = some c ∧ W.cell? ⟨g, 3, none⟩ = some d ∧ W.cell? ⟨g, 4, none⟩ = some e ∧ (W.frozen? ⟨g, 0, none⟩ = false ∧ W.frozen? ⟨g, 1, none⟩ = false ∧ W.frozen? ⟨g, 2, none⟩ = false ∧ W.frozen? ⟨g, 3, none⟩ = false ∧ W.frozen? ⟨g, 4, none⟩ = false) :=
 ⟨(blk_cell h 0).trans rfl, (blk_cell h 1).trans rfl, (blk_cell h 2).trans rfl, (blk_cell h 3).trans rfl, (blk_cell h 4).trans rfl, blk_frozen h 0, blk_frozen h 1, blk_frozen h 2, blk_frozen h 3, blk_frozen h 4⟩
set_option maxHeartbeats 4000000 in
set_option maxRecDepth 100000 in
theorem made_walk (x : S109) (w : World) : Calls Tryz.prog 62 #[.agg #[.string x.f0, .int .u8 x.f1, .bool x.f2, .int .i64 x.f3, .int .i64 x.f4, .bool x.f5]] w fun e w' => e = .returned (.agg #[.string (madeC x).f0, .int .u8 (madeC x).f1, .bool (madeC x).f2, .int .i64 (madeC x).f3, .int .i64 (madeC x).f4]) ∧ Below w.heap.size w w' := by
 unfold madeC
 obtain ⟨f0, f1, f2, f3, f4, f5⟩ := x
 simp only
 cases f2 with
 | false =>
  go_enter Tryz.func62, Tryz.ntmps62
  go_wp2
  all_goals
   generalize hW : World.alloc _ _ = W
   obtain ⟨h0, h1, h2, hb⟩ := three w hW
   refine bodyPost_ret (results_cell_row rfl _ _ _ 83 _ (0, 0) _ rfl h1 Tryz.underlying83 rfl (by kernel_rfl)) rfl ?_
   exact ⟨by first | rfl | simp_all, hb⟩
 | true =>
  go_enter Tryz.func62, Tryz.ntmps62
  go_wp2
  all_goals
   generalize hW : World.alloc _ _ = W
   obtain ⟨h0, h1, h2, hb⟩ := three w hW
   have k1 := Aside0.mk (blk_drew h1)
   have k2 := Aside0.mk (blk_drew h2)
   have kb := Aside0.mk (below_drew1 hb)
   clear hW
   refine start_ (n := 8) (S := fun W' => W'.cell? ⟨w.heap.size, 3, none⟩ = some (.int .i64 f3) ∧ W'.cell? ⟨w.heap.size, 4, none⟩ = some (.int .i64 f4)) (ds := []) #[false, false, false, false, false, false, false, false] (by kernel_rfl) rfl rfl ⟨(blk_cell (blk_drew h0) 3).trans rfl, (blk_cell (blk_drew h0) 4).trans rfl⟩ (fun hHeld => ?_)
   clear h0 h1 h2 hb
   generalize W.drew = W2 at *
   refine pure_ (i := 0) (N := some 28) (v := ?_) (a' := ?_) #[true, false, false, false, false, false, false, false] rfl rfl (by kernel_rfl) (fun _ _ _ h => h) (Or.inl ⟨by rfl, ?_⟩) ?_ ?_
   rotate_left
   ·intro w'; go_simp; with_reducible rfl
   rotate_left
   ·simp only [Act.put, List.setIfInBounds_toArray, List.set_cons_zero, List.set_cons_succ, i64_w, i32_w]; rfl
   refine take_ (i := 1) (N := some 29) (v := ?_) (a' := ?_) #[true, true, false, false, false, false, false, false] rfl rfl (by kernel_rfl) (fun _ _ _ h => h) (Or.inl ⟨by rfl, ?_⟩) hHeld ?_ ?_
   rotate_left
   ·rintro w' ⟨s3, s4⟩; go_simp; with_reducible rfl
   rotate_left
   ·simp only [Act.put, List.setIfInBounds_toArray, List.set_cons_zero, List.set_cons_succ, i64_w, i32_w]; rfl
   refine pure_ (i := 2) (N := some 30) (v := ?_) (a' := ?_) #[true, true, true, false, false, false, false, false] rfl rfl (by kernel_rfl) (fun _ _ _ h => h) (Or.inl ⟨by rfl, ?_⟩) ?_ ?_
   rotate_left
   ·intro w'; go_simp; with_reducible rfl
   rotate_left
   ·simp only [Act.put, List.setIfInBounds_toArray, List.set_cons_zero, List.set_cons_succ, i64_w, i32_w]; rfl
   refine take_ (i := 3) (N := some 31) (v := ?_) (a' := ?_) #[true, true, true, true, false, false, false, false] rfl rfl (by kernel_rfl) (fun _ _ _ h => h) (Or.inl ⟨by rfl, ?_⟩) hHeld ?_ ?_
   rotate_left
   ·rintro w' ⟨s3, s4⟩; go_simp; with_reducible rfl
   rotate_left
   ·simp only [Act.put, List.setIfInBounds_toArray, List.set_cons_zero, List.set_cons_succ, i64_w, i32_w]; rfl
   refine pure_ (i := 4) (N := some 32) (v := ?_) (a' := ?_) #[true, true, true, true, true, false, false, false] rfl rfl (by kernel_rfl) (fun _ _ _ h => h) (Or.inl ⟨by rfl, ?_⟩) ?_ ?_
   rotate_left
   ·intro w'; go_simp; with_reducible rfl
   rotate_left
   ·simp only [Act.put, List.setIfInBounds_toArray, List.set_cons_zero, List.set_cons_succ, i64_w, i32_w]; rfl
   refine one_ (i := 5) (N := none) #[true, true, true, true, true, true, false, false] rfl rfl (by kernel_rfl) (by decide) (fun K hK => ?_)
   have y1 := five_at k2.out
   obtain ⟨_, _, _, hx, hx4, _, _, _, hxf, hxf4⟩ := y1
   refine skip_ (w1 := ?_) (by rfl) rfl ?_ ?_
   rotate_left
   ·go_simp
    rfl
   have hne : w.heap.size ≠ w.heap.size + 1 + 1 := by omega
   have hne1 : w.heap.size + 1 ≠ w.heap.size + 1 + 1 := by omega
   refine hK.out _ _ ⟨(cell_far (p := ⟨w.heap.size + 1 + 1, 3, none⟩) hne _).trans hHeld.1, (cell_far (p := ⟨w.heap.size + 1 + 1, 3, none⟩) hne _).trans hHeld.2⟩ (fun hHeld2 => ?_)
   clear hK K
   refine pure_ (i := 6) (N := some 33) (v := ?_) (a' := ?_) #[true, true, true, true, true, true, true, false] rfl rfl (by kernel_rfl) (fun _ _ _ h => h) (Or.inl ⟨by rfl, ?_⟩) ?_ ?_
   rotate_left
   ·intro w'; go_simp; with_reducible rfl
   rotate_left
   ·simp only [Act.put, List.setIfInBounds_toArray, List.set_cons_zero, List.set_cons_succ, i64_w, i32_w]; rfl
   refine one_ (i := 7) (N := none) #[true, true, true, true, true, true, true, true] rfl rfl (by kernel_rfl) (by decide) (fun K hK => ?_)
   refine skip_ (w1 := ?_) (by rfl) rfl ?_ ?_
   rotate_left
   ·go_simp
    rfl
   refine hK.out _ _ ⟨(cell_far (p := ⟨w.heap.size + 1 + 1, 4, none⟩) hne _).trans hHeld2.1, (cell_far (p := ⟨w.heap.size + 1 + 1, 4, none⟩) hne _).trans hHeld2.2⟩ (fun hHeld3 => ?_)
   clear hK K
   refine done_ (by kernel_rfl) ?_
   have b1 := blk_put (blk_put k2.out 3 (.int .i64 f3) rfl) 4 (.int .i64 f4) rfl
   have b2 := blk_far (blk_far k1.out (p := ⟨w.heap.size + 1 + 1, 3, none⟩) hne1 (.int .i64 f3)) (p := ⟨w.heap.size + 1 + 1, 4, none⟩) hne1 (.int .i64 f4)
   have b3 := below_set (below_set kb.out (g := w.heap.size + 1 + 1) (j := 3) (v := .int .i64 f3) (by omega)) (g := w.heap.size + 1 + 1) (j := 4) (v := .int .i64 f4) (by omega)
   clear hHeld hHeld2 hHeld3 hx hx4 hxf hxf4 k1 k2 kb
   generalize (W2.setCell ⟨w.heap.size + 1 + 1, 3, none⟩ (.int .i64 f3)).setCell ⟨w.heap.size + 1 + 1, 4, none⟩ (.int .i64 f4) = W4 at *
   obtain ⟨z0, z1, z2, z3, z4, _⟩ := five_at b1
   obtain ⟨t0, t1, t2, t3, t4, q0, q1, q2, q3, q4⟩ := five_at b2
   have HF := Aside0.mk (fun a' b' c' d' e' => five b2 a' b' c' d' e')
   have HG := Aside0.mk (fun a' b' c' d' e' => below_set (below_set (below_set (below_set (below_set b3 (g := w.heap.size + 1) (j := 0) (v := a') (by omega)) (g := w.heap.size + 1) (j := 1) (v := b') (by omega)) (g := w.heap.size + 1) (j := 2) (v := c') (by omega)) (g := w.heap.size + 1) (j := 3) (v := d') (by omega)) (g := w.heap.size + 1) (j := 4) (v := e') (by omega))
   clear b1 b2 b3
   go_wp2
   all_goals refine bodyPost_ret (results_cell_row rfl _ _ _ 83 _ (0, 0) _ rfl (HF.out _ _ _ _ _) Tryz.underlying83 rfl (by kernel_rfl)) rfl ?_
   all_goals exact ⟨by first | rfl | simp_all, HG.out _ _ _ _ _⟩
set_option maxHeartbeats 4000000 in
set_option maxRecDepth 100000 in
theorem mapMade_walk (A0 : Option Addr) (c0 : Nat) (l : List S109) (w : World) (hr0 : Kd.C k109 w A0 l.length l) (hc0 : l.length ≤ c0) (hs : l.length ≤ 2000000) :
  Calls Tryz.prog 61 #[.slice A0 l.length c0, .func (.func 62) #[] #[]] w fun e w' => ∃ v0_ : Value, e = .returned (v0_) ∧ k78.R 83 w' w.heap.size (fun _ => True) v0_ (l.map madeC) ∧ Below w.heap.size w w' := by
 have HR := Aside0.mk hr0
 have HB0 := Aside0.mk (Below.refl w.heap.size w)
 clear hr0
 obtain ⟨i0, hi0, hz0, hz1, hz2⟩ := info_parts (P := Tryz.prog) (e := 83) (z := .agg #[(.string ⟨#[]⟩), (.int .u8 0), (.bool false), (.int .i64 0), (.int .i64 0)]) (size := 5) (bytes := 40) (by kernel_rfl)
 obtain ⟨W1, hmk0, hown0, hgr0⟩ := run_make_own w w.heap.size 67 83 i0 _ 5 Tryz.underlying67 hi0 hz0 hz1 .i64 .i64 l.length (by rw [hz2]; omega) (by unfold maxLen; omega) (Nat.le_refl _)
 have HB1 : Aside0 (Below w.heap.size w W1) := ⟨HB0.out.grown hgr0 (Nat.le_refl _) (fun j hj => by cases hj)⟩
 have HO1 : Aside0 (k78.R 83 W1 w.heap.size (fun _ => True) (.slice (some ⟨w.heap.size, 0, none⟩) 0 l.length) []) := ⟨⟨fun _ _ => trivial, [], hown0, Reps.none _ _⟩⟩
 clear hown0 hgr0 hi0 hz0 hz1 hz2 HB0
 go_enter Tryz.func61, Tryz.ntmps61
 go_wp2
 go_loopg [5, 13] l.length (fun gk v5 v13 wx => ∃ (i : Nat), i + gk = l.length ∧ v13 = .int .i64 i ∧ Aside0 (k78.R 83 wx w.heap.size (fun _ => True) v5 ((l.take i).map madeC)) ∧ Aside0 (Below w.heap.size w wx))
 case atStart => exact ⟨0, by omega, rfl, by simpa using HO1, HB1⟩
 case round =>
  clear HO1 HB1
  obtain ⟨i, hi, rfl, HO, HB⟩ := hrel
  cases gk with
  | zero =>
   have e : l.take i = l := List.take_of_length_le (by omega)
   have hii : ¬ (i : Int) < (l.length : Int) := by omega
   rw [e] at HO
   go_wp2
   go_ret
   exact ⟨_, rfl, HO.out, HB.out⟩
  | succ gk =>
   have hlt : i < l.length := by omega
   have hii : (i : Int) < (l.length : Int) := by omega
   have hi0 : (0 : Int) ≤ (i : Int) := by omega
   have hrd : rd_T109 l (i : Int) = l[i] := by unfold rd_T109; simp [List.getD, hlt]
   obtain ⟨ad, hA, x0, x1, x2, x3, x4, x5⟩ := at_T109 HR.out (i : Int) hi0 hii
   cases hA
   rw [hrd] at x0 x1 x2 x3 x4 x5
   rw [Int.toNat_natCast] at x0 x1 x2 x3 x4 x5
   replace x0 := (HB.out.cell (World.block_lt_of_cell? w _ x0)).trans x0
   replace x1 := (HB.out.cell (World.block_lt_of_cell? w _ x1)).trans x1
   replace x2 := (HB.out.cell (World.block_lt_of_cell? w _ x2)).trans x2
   replace x3 := (HB.out.cell (World.block_lt_of_cell? w _ x3)).trans x3
   replace x4 := (HB.out.cell (World.block_lt_of_cell? w _ x4)).trans x4
   replace x5 := (HB.out.cell (World.block_lt_of_cell? w _ x5)).trans x5
   have HT : Aside0 ((l.take (i + 1)).map madeC = (l.take i).map madeC ++ [madeC l[i]]) := ⟨by rw [take_snoc hlt, List.map_append]; rfl⟩
   have hlen2 : ((l.take i).map madeC).length ≤ 2000000 := by rw [List.length_map, List.length_take]; omega
   clear hrd
   generalize l[i] = x at *
   generalize (l.take i).map madeC = pre at *
   have HN : Aside0 (∀ W, Calls Tryz.prog 62 #[.agg #[.string x.f0, .int .u8 x.f1, .bool x.f2, .int .i64 x.f3, .int .i64 x.f4, .bool x.f5]] W fun e w' => e = .returned (.agg #[.string (madeC x).f0, .int .u8 (madeC x).f1, .bool (madeC x).f2, .int .i64 (madeC x).f3, .int .i64 (madeC x).f4]) ∧ Below W.heap.size W w') := ⟨made_walk x⟩
   generalize madeC x = y at *
   have HBA := Aside0.mk (fun o => below_alloc HB.out o)
   have HBO := Aside0.mk (fun o => (Below.refl wr.heap.size wr).alloc (Nat.le_refl _) o)
   go_wp2_with (first
    | (go_at_call 62; refine (HN.out _).mono ?_; rintro e w1 ⟨rfl, hb1⟩; have HO2 := Aside0.mk (Kd.R_below HO.out (below_step (HBO.out _) hb1)); have HB2 := Aside0.mk (below_step (HBA.out _) hb1); clear hb1)
    | ((with_reducible refine gate_builtin (b := .append) (xs := #[.tmp 17, .tmp 21]) rfl ?_); at_builtin; refine Kd.R_append k78 (w0 := w) w.heap.size rfl (.tmp 17) (.tmp 21) 67 83 (.agg #[(.string ⟨#[]⟩), (.int .u8 0), (.bool false), (.int .i64 0), (.int .i64 0)]) 40 rfl Tryz.underlying67 info83 rfl (by decide) (by omega) u5 pre y [.string y.f0, .int .u8 y.f1, .bool y.f2, .int .i64 y.f3, .int .i64 y.f4] (fun _ => True) (fun _ => False) rfl rfl (k78_mkM _ _ _ y) (fun _ h => h.elim) (fun _ _ => trivial) HO2.out HB2.out HB2.out.size (by omega) ?_; intro v1 w2 hv1 hb2 _ _))
   go_roundg gk
   case measure => omega
   case rel => exact ⟨i + 1, by omega, by first | rfl | (simp; done) | (simp; unfold wrap64; omega), ⟨by rw [HT.out]; exact hv1⟩, ⟨hb2⟩⟩
set_option maxRecDepth 100000 in
theorem defName_walk (x : S109) (w : World) : Calls Tryz.prog 66 #[.agg #[.string x.f0, .int .u8 x.f1, .bool x.f2, .int .i64 x.f3, .int .i64 x.f4, .bool x.f5]] w fun e w' => e = .returned (.string x.f0) ∧ Below w.heap.size w w' := by
 go_enter Tryz.func66, Tryz.ntmps66
 go_wp2
 go_ret
 exact ⟨rfl, (Below.refl _ _).alloc (Nat.le_refl _) _⟩
set_option maxHeartbeats 4000000 in
set_option maxRecDepth 100000 in
theorem mapNames_walk (A0 : Option Addr) (c0 : Nat) (l : List S109) (w : World) (hr0 : Kd.C k109 w A0 l.length l) (hc0 : l.length ≤ c0) (hs : l.length ≤ 2000000) :
  Calls Tryz.prog 65 #[.slice A0 l.length c0, .func (.func 66) #[] #[]] w fun e w' => ∃ v0_ : Value, e = .returned (v0_) ∧ Kd.string.R 9 w' w.heap.size (fun _ => True) v0_ (l.map fun x => x.f0) ∧ Below w.heap.size w w' := by
 have HR := Aside0.mk hr0
 have HB0 := Aside0.mk (Below.refl w.heap.size w)
 clear hr0
 obtain ⟨i0, hi0, hz0, hz1, hz2⟩ := info_parts (P := Tryz.prog) (e := 9) (z := .string ⟨#[]⟩) (size := 1) (bytes := 16) (by kernel_rfl)
 obtain ⟨W1, hmk0, hown0, hgr0⟩ := run_make_own w w.heap.size 103 9 i0 _ 1 Tryz.underlying103 hi0 hz0 hz1 .i64 .i64 l.length (by rw [hz2]; omega) (by unfold maxLen; omega) (Nat.le_refl _)
 have HB1 : Aside0 (Below w.heap.size w W1) := ⟨HB0.out.grown hgr0 (Nat.le_refl _) (fun j hj => by cases hj)⟩
 have HO1 : Aside0 (Kd.string.R 9 W1 w.heap.size (fun _ => True) (.slice (some ⟨w.heap.size, 0, none⟩) 0 l.length) []) := ⟨⟨fun _ _ => trivial, [], hown0, Reps.none _ _⟩⟩
 clear hown0 hgr0 hi0 hz0 hz1 hz2 HB0
 go_enter Tryz.func65, Tryz.ntmps65
 go_wp2
 go_loopg [5, 13] l.length (fun gk v5 v13 wx => ∃ (i : Nat), i + gk = l.length ∧ v13 = .int .i64 i ∧ Aside0 (Kd.string.R 9 wx w.heap.size (fun _ => True) v5 ((l.take i).map fun x => x.f0)) ∧ Aside0 (Below w.heap.size w wx))
 case atStart => exact ⟨0, by omega, rfl, by simpa using HO1, HB1⟩
 case round =>
  clear HO1 HB1
  obtain ⟨i, hi, rfl, HO, HB⟩ := hrel
  cases gk with
  | zero =>
   have e : l.take i = l := List.take_of_length_le (by omega)
   have hii : ¬ (i : Int) < (l.length : Int) := by omega
   rw [e] at HO
   go_wp2
   go_ret
   exact ⟨_, rfl, HO.out, HB.out⟩
  | succ gk =>
   have hlt : i < l.length := by omega
   have hii : (i : Int) < (l.length : Int) := by omega
   have hi0 : (0 : Int) ≤ (i : Int) := by omega
   have hrd : rd_T109 l (i : Int) = l[i] := by unfold rd_T109; simp [List.getD, hlt]
   obtain ⟨ad, hA, x0, x1, x2, x3, x4, x5⟩ := at_T109 HR.out (i : Int) hi0 hii
   cases hA
   rw [hrd] at x0 x1 x2 x3 x4 x5
   rw [Int.toNat_natCast] at x0 x1 x2 x3 x4 x5
   replace x0 := (HB.out.cell (World.block_lt_of_cell? w _ x0)).trans x0
   replace x1 := (HB.out.cell (World.block_lt_of_cell? w _ x1)).trans x1
   replace x2 := (HB.out.cell (World.block_lt_of_cell? w _ x2)).trans x2
   replace x3 := (HB.out.cell (World.block_lt_of_cell? w _ x3)).trans x3
   replace x4 := (HB.out.cell (World.block_lt_of_cell? w _ x4)).trans x4
   replace x5 := (HB.out.cell (World.block_lt_of_cell? w _ x5)).trans x5
   have HT : Aside0 (((l.take (i + 1)).map fun x => x.f0) = ((l.take i).map fun x => x.f0) ++ [l[i].f0]) := ⟨by rw [take_snoc hlt, List.map_append]; rfl⟩
   have hlen2 : ((l.take i).map fun x => x.f0).length ≤ 2000000 := by rw [List.length_map, List.length_take]; omega
   clear hrd
   generalize l[i] = x at *
   generalize ((l.take i).map fun x => x.f0) = pre at *
   have HN := Aside0.mk (defName_walk x)
   have HBA := Aside0.mk (fun o => below_alloc HB.out o)
   have HBO := Aside0.mk (fun o => (Below.refl wr.heap.size wr).alloc (Nat.le_refl _) o)
   go_wp2_with (first
    | (go_at_call 66; refine (HN.out _).mono ?_; rintro e w1 ⟨rfl, hb1⟩; have HO2 := Aside0.mk (Kd.R_below HO.out (below_step (HBO.out _) hb1)); have HB2 := Aside0.mk (below_step (HBA.out _) hb1); clear hb1)
    | ((with_reducible refine gate_builtin (b := .append) (xs := #[.tmp 17, .tmp 21]) rfl ?_); at_builtin; refine Kd.R_append Kd.string (w0 := w) w.heap.size rfl (.tmp 17) (.tmp 21) 103 9 (.string ⟨#[]⟩) 16 rfl Tryz.underlying103 info9 rfl (by decide) (by omega) u5 pre x.f0 [.string x.f0] (fun _ => True) (fun _ => False) rfl rfl rfl (fun _ h => h.elim) (fun _ _ => trivial) HO2.out HB2.out HB2.out.size (by omega) ?_; intro v1 w2 hv1 hb2 _ _))
   go_roundg gk
   case measure => omega
   case rel => exact ⟨i + 1, by omega, by first | rfl | (simp; done) | (simp; unfold wrap64; omega), ⟨by rw [HT.out]; exact hv1⟩, ⟨hb2⟩⟩
theorem grown_refl (a : World) (r : Option Nat) : a.grownBy a r := ⟨rfl, rfl, rfl, Nat.le_refl _, fun _ _ _ => rfl⟩
theorem grown_trans {a b c : World} {r : Option Nat} (h : a.grownBy b r) (k : b.grownBy c r) : a.grownBy c r :=
 ⟨k.os.trans h.os, k.tape.trans h.tape, k.output.trans h.output, Nat.le_trans h.size k.size, fun i hi hr => (k.block i (Nat.lt_of_lt_of_le hi h.size) hr).trans (h.block i hi hr)⟩
theorem grown_below {a b : World} (h : Below a.heap.size a b) (r : Option Nat) : a.grownBy b r := ⟨h.os, h.tape, h.output, h.size, fun k hk _ => h.block k hk⟩
theorem grown_set (a : World) (g j : Nat) (u : Value) : a.grownBy (a.setCell ⟨g, j, none⟩ u) (some g) :=
 ⟨rfl, rfl, rfl, by simp [World.setCell], fun k hk hr => Below.heap_setCell a ⟨g, j, none⟩ u k (fun h => hr (by rw [h]))⟩
theorem grown_drew (a : World) (r : Option Nat) : a.grownBy a.drew r := grown_below (below_drew1 (Below.refl _ _)) r
theorem grown_belowB {a b : World} {g B : Nat} (h : a.grownBy b (some g)) (h1 : B ≤ a.heap.size) (h2 : B ≤ g) : Below B a b :=
 (Below.refl B a).grown h h1 (fun k hk => by injection hk with hk; omega)
def askE (err : Int) (wrong : Bool) (e : Int) : Int := if err = 0 then if wrong = true then e else err else err
theorem ask_walk (g : Nat) (b n c k r x : Value) (err : Int) (wrong : Bool) (e : Int) (w : World) (hb : w.heap[g]? = some (.cells #[b, n, c, k, r, x, .int .i64 err] 118 (0, 0))) :
  Calls Tryz.prog 63 #[.pointer (some ⟨g, 0, none⟩), .bool wrong, .int .i64 e] w fun e_ w' => e_ = .returned (.bool (askE err wrong e == 0)) ∧ w'.heap[g]? = some (.cells #[b, n, c, k, r, x, .int .i64 (askE err wrong e)] 118 (0, 0)) ∧ w.grownBy w' (some g) := by
 have hx : w.cell? ⟨g, 6, none⟩ = some (.int .i64 err) := (blk_cell hb 6).trans rfl
 have hxf := blk_frozen hb 6
 have HB := Aside0.mk hb
 unfold askE
 clear hb
 by_cases q : err = 0
 ·subst q
  rw [if_pos rfl]
  cases wrong with
  | true =>
   rw [if_pos rfl]
   go_enter Tryz.func63, Tryz.ntmps63
   go_wp2
   go_ret
   exact ⟨rfl, blk_put HB.out 6 _ rfl, grown_set _ _ _ _⟩
  | false =>
   rw [if_neg (by decide)]
   go_enter Tryz.func63, Tryz.ntmps63
   go_wp2
   go_ret
   exact ⟨rfl, HB.out, grown_refl _ _⟩
 ·rw [if_neg q]
  have d1 : (err == 0) = false := beq_eq_false_iff_ne.mpr q
  go_enter Tryz.func63, Tryz.ntmps63
  go_wp2
  go_ret
  exact ⟨by rw [d1]; rfl, HB.out, grown_refl _ _⟩
def idxI (c : Int) : Nat → List Int → Int
 | _, [] => -1
 | i, x :: r => if x = c then (i : Int) else idxI c (i + 1) r
theorem idxI_range (c : Int) : ∀ (l : List Int) (i : Nat), (c ∈ l → (i : Int) ≤ idxI c i l ∧ idxI c i l < (i + l.length : Nat)) ∧ (c ∉ l → idxI c i l = -1)
 | [], i => ⟨fun h => (by cases h), fun _ => rfl⟩
 | x :: r, i => by
  obtain ⟨h1, h2⟩ := idxI_range c r (i + 1)
  rw [idxI]
  by_cases q : x = c
  ·rw [if_pos q]
   exact ⟨fun _ => ⟨Int.le_refl _, by simp; omega⟩, fun h => absurd (by rw [q]; exact List.mem_cons_self) h⟩
  ·rw [if_neg q]
   refine ⟨fun h => ?_, fun h => h2 (fun hm => h (List.mem_cons_of_mem _ hm))⟩
   rcases List.mem_cons.1 h with e | e
   ·exact absurd e.symm q
   ·have := h1 e
    simp at this ⊢
    omega
set_option maxRecDepth 100000 in
theorem index_walk (A : Option Addr) (c : Nat) (l : List Int) (z : Int) (w : World) (hC : Kd.C (Kd.int .i64) w A l.length l) (hc : l.length ≤ c) :
  Calls Tryz.prog 123 #[.slice A l.length c, .int .i64 z] w fun e w' => e = .returned (.int .i64 (idxI z 0 l)) ∧ Below w.heap.size w w' := by
 have HC := Aside0.mk hC
 have HB0 := Aside0.mk (Below.refl w.heap.size w)
 clear hC
 go_enter Tryz.func123, Tryz.ntmps123
 go_wp2
 go_loopg [8] l.length (fun gk v8 wx => ∃ (i : Nat), i + gk = l.length ∧ v8 = .int .i64 i ∧ Aside0 (Below w.heap.size w wx) ∧ Aside0 (idxI z 0 l = idxI z i (l.drop i)))
 case atStart => exact ⟨0, by omega, rfl, HB0, ⟨by simp⟩⟩
 case round =>
  clear HB0
  obtain ⟨i, hi, rfl, HW, HP⟩ := hrel
  cases gk with
  | zero =>
   have e : l.drop i = [] := List.drop_eq_nil_of_le (by omega)
   have hp := HP.out
   rw [e] at hp
   have hii : ¬ (i : Int) < (l.length : Int) := by omega
   go_wp2
   go_ret
   exact ⟨by first | rfl | (rw [hp]; rfl), HW.out⟩
  | succ gk =>
   have hlt : i < l.length := by omega
   have hii : (i : Int) < (l.length : Int) := by omega
   have hi0 : (0 : Int) ≤ (i : Int) := by omega
   have hdr : l.drop i = l[i] :: l.drop (i + 1) := List.drop_eq_getElem_cons hlt
   obtain ⟨ad, hA, hx⟩ := Kd.at_int HC.out (i : Int) hi0 hii
   have hrd : rd l (i : Int) = l[i] := by unfold rd; simp [List.getD, hlt]
   cases hA
   rw [hrd, Int.toNat_natCast] at hx
   have hy := (HW.out.cell (World.block_lt_of_cell? w _ hx)).trans hx
   have hp := HP.out
   rw [hdr, idxI] at hp
   generalize l[i] = x at *
   clear hx
   by_cases hh : x = z
   ·rw [if_pos hh] at hp
    have hb : (z == x) = true := beq_iff_eq.mpr hh.symm
    clear hh
    go_wp2
    go_ret
    exact ⟨by first | rfl | (rw [hp]; rfl), HW.out⟩
   ·rw [if_neg hh] at hp
    have hb : (z == x) = false := beq_eq_false_iff_ne.mpr (Ne.symm hh)
    clear hh
    go_wp2
    go_roundg gk
    case measure => omega
    case rel => exact ⟨i + 1, by omega, by first | rfl | (simp; done) | (have := HC.out.2.1; simp; unfold wrap64; omega), HW, ⟨hp⟩⟩
theorem contains_walk (A : Option Addr) (c : Nat) (l : List Int) (z : Int) (w : World) (hC : Kd.C (Kd.int .i64) w A l.length l) (hc : l.length ≤ c) :
  Calls Tryz.prog 154 #[.slice A l.length c, .int .i64 z] w fun e w' => e = .returned (.bool (decide (z ∈ l))) ∧ Below w.heap.size w w' := by
 have HI := Aside0.mk (index_walk A c l z w hC hc)
 have hr := idxI_range z l 0
 clear hC
 go_enter Tryz.func154, Tryz.ntmps154
 cases hq : decide (z ∈ l) with
 | true =>
  have d1 : decide (0 ≤ idxI z 0 l) = true := decide_eq_true (by have := hr.1 (by simpa using hq); omega)
  clear hq hr
  go_wp2_with (go_at_call 123; refine HI.out.mono ?_; rintro e w1 ⟨rfl, hb1⟩)
  go_ret
  exact ⟨rfl, hb1⟩
 | false =>
  have d1 : decide (0 ≤ idxI z 0 l) = false := decide_eq_false (by have := hr.2 (by simpa using hq); omega)
  clear hq hr
  go_wp2_with (go_at_call 123; refine HI.out.mono ?_; rintro e w1 ⟨rfl, hb1⟩)
  go_ret
  exact ⟨rfl, hb1⟩
def colsN (cols : List S78) (l : List ByteArray) : List Int := l.map fun s => colP s 0 cols
set_option maxRecDepth 100000 in
theorem numOne_walk (f0 : ByteArray) (A1 : Option Addr) (c1 : Nat) (cols : List S78) (A2 : Option Addr) (n2 c2 : Nat) (A3 : Option Addr) (n3 c3 : Nat) (A4 : Option Addr) (n4 c4 : Nat) (a : Nat) (s : ByteArray) (w : World) (hC : Kd.C k78 w A1 cols.length cols) (hc : cols.length ≤ c1)
  (hT : w.heap[a]? = some (.cells #[.string f0, .slice A1 cols.length c1, .slice A2 n2 c2, .slice A3 n3 c3, .slice A4 n4 c4] 72 (0, 0))) :
  Calls Tryz.prog 153 #[.string s, .pointer (some ⟨a, 0, none⟩)] w fun e w' => e = .returned (.int .i64 (colP s 0 cols)) ∧ Below w.heap.size w w' := by
 have HN := Aside0.mk (column_walk f0 A1 c1 cols A2 n2 c2 A3 n3 c3 A4 n4 c4 s w hC hc)
 obtain ⟨z0, z1, z2, z3, z4, _⟩ := five_at hT
 clear hC hT
 go_enter Tryz.func153, Tryz.ntmps153
 go_wp2_with (go_at_call 91; refine HN.out.mono ?_; rintro e w1 ⟨rfl, hb1⟩)
 go_ret
 exact ⟨rfl, hb1⟩
set_option maxHeartbeats 4000000 in
set_option maxRecDepth 100000 in
theorem mapNum_walk (f0 : ByteArray) (A1 : Option Addr) (c1 : Nat) (cols : List S78) (A2 : Option Addr) (n2 c2 : Nat) (A3 : Option Addr) (n3 c3 : Nat) (A4 : Option Addr) (n4 c4 : Nat) (a : Nat) (A0 : Option Addr) (c0 : Nat) (l : List ByteArray) (w : World) (hC : Kd.C k78 w A1 cols.length cols) (hc : cols.length ≤ c1)
  (hT : w.heap[a]? = some (.cells #[.string f0, .slice A1 cols.length c1, .slice A2 n2 c2, .slice A3 n3 c3, .slice A4 n4 c4] 72 (0, 0))) (hr0 : Kd.C Kd.string w A0 l.length l) (hc0 : l.length ≤ c0) (hs : l.length ≤ 2000000) :
  Calls Tryz.prog 152 #[.slice A0 l.length c0, .func (.func 153) #[] #[.pointer (some ⟨a, 0, none⟩)]] w fun e w' => ∃ v0_ : Value, e = .returned (v0_) ∧ (Kd.int .i64).R 3 w' w.heap.size (fun _ => True) v0_ (colsN cols l) ∧ Below w.heap.size w w' := by
 have HR := Aside0.mk hr0
 have HN : Aside0 (∀ s W, Below w.heap.size w W → Calls Tryz.prog 153 #[.string s, .pointer (some ⟨a, 0, none⟩)] W fun e w' => e = .returned (.int .i64 (colP s 0 cols)) ∧ Below W.heap.size W w') := ⟨fun s W hW => numOne_walk f0 A1 c1 cols A2 n2 c2 A3 n3 c3 A4 n4 c4 a s W (Kd.C_below hC hW) hc ((hW.block a (blk_lt hT)).trans hT)⟩
 have HB0 := Aside0.mk (Below.refl w.heap.size w)
 clear hr0 hC hT
 obtain ⟨i0, hi0, hz0, hz1, hz2⟩ := info_parts (P := Tryz.prog) (e := 3) (z := .int .i64 0) (size := 1) (bytes := 8) (by kernel_rfl)
 obtain ⟨W1, hmk0, hown0, hgr0⟩ := run_make_own w w.heap.size 70 3 i0 _ 1 Tryz.underlying70 hi0 hz0 hz1 .i64 .i64 l.length (by rw [hz2]; omega) (by unfold maxLen; omega) (Nat.le_refl _)
 have HB1 : Aside0 (Below w.heap.size w W1) := ⟨HB0.out.grown hgr0 (Nat.le_refl _) (fun j hj => by cases hj)⟩
 have HO1 : Aside0 ((Kd.int .i64).R 3 W1 w.heap.size (fun _ => True) (.slice (some ⟨w.heap.size, 0, none⟩) 0 l.length) []) := ⟨⟨fun _ _ => trivial, [], hown0, Reps.none _ _⟩⟩
 clear hown0 hgr0 hi0 hz0 hz1 hz2 HB0
 unfold colsN
 go_enter Tryz.func152, Tryz.ntmps152
 go_wp2
 go_loopg [5, 13] l.length (fun gk v5 v13 wx => ∃ (i : Nat), i + gk = l.length ∧ v13 = .int .i64 i ∧ Aside0 ((Kd.int .i64).R 3 wx w.heap.size (fun _ => True) v5 ((l.take i).map fun s => colP s 0 cols)) ∧ Aside0 (Below w.heap.size w wx))
 case atStart => exact ⟨0, by omega, rfl, by simpa using HO1, HB1⟩
 case round =>
  clear HO1 HB1
  obtain ⟨i, hi, rfl, HO, HB⟩ := hrel
  cases gk with
  | zero =>
   have e : l.take i = l := List.take_of_length_le (by omega)
   have hii : ¬ (i : Int) < (l.length : Int) := by omega
   rw [e] at HO
   go_wp2
   go_ret
   exact ⟨_, rfl, HO.out, HB.out⟩
  | succ gk =>
   have hlt : i < l.length := by omega
   have hii : (i : Int) < (l.length : Int) := by omega
   have hi0 : (0 : Int) ≤ (i : Int) := by omega
   have hrd : rdOf ByteArray.empty l (i : Int) = l[i] := by unfold rdOf; simp [List.getD, hlt]
   obtain ⟨ad, hA, x0⟩ := Kd.at_string HR.out (i : Int) hi0 hii
   cases hA
   rw [hrd, Int.toNat_natCast] at x0
   replace x0 := (HB.out.cell (World.block_lt_of_cell? w _ x0)).trans x0
   have HT : Aside0 (((l.take (i + 1)).map fun s => colP s 0 cols) = ((l.take i).map fun s => colP s 0 cols) ++ [colP l[i] 0 cols]) := ⟨by rw [take_snoc hlt, List.map_append]; rfl⟩
   have hlen2 : ((l.take i).map fun s => colP s 0 cols).length ≤ 2000000 := by rw [List.length_map, List.length_take]; omega
   clear hrd
   generalize l[i] = x at *
   generalize ((l.take i).map fun s => colP s 0 cols) = pre at *
   have HN2 := Aside0.mk (HN.out x wr HB.out)
   generalize colP x 0 cols = y at *
   go_wp2_with (first
    | (go_at_call 153; refine HN2.out.mono ?_; rintro e w1 ⟨rfl, hb1⟩; have HO2 := Aside0.mk (Kd.R_below HO.out hb1); have HB2 := Aside0.mk (below_step HB.out hb1); clear hb1)
    | ((with_reducible refine gate_builtin (b := .append) (xs := #[.tmp 17, .tmp 21]) rfl ?_); at_builtin; refine Kd.R_append (Kd.int .i64) (w0 := w) w.heap.size rfl (.tmp 17) (.tmp 21) 70 3 (.int .i64 0) 8 rfl Tryz.underlying70 info3 rfl (by decide) (by omega) u5 pre y [.int .i64 y] (fun _ => True) (fun _ => False) rfl rfl rfl (fun _ h => h.elim) (fun _ _ => trivial) HO2.out HB2.out HB2.out.size (by omega) ?_; intro v1 w2 hv1 hb2 _ _))
   go_roundg gk
   case measure => omega
   case rel => exact ⟨i + 1, by omega, by first | rfl | (simp; done) | (simp; unfold wrap64; omega), ⟨by rw [HT.out]; exact hv1⟩, ⟨hb2⟩⟩
set_option maxHeartbeats 4000000 in
set_option maxRecDepth 100000 in
theorem numbers_walk (g : Nat) (b n c k r x : Value) (err : Int) (f0 : ByteArray) (A1 : Option Addr) (c1 : Nat) (cols : List S78) (A2 : Option Addr) (n2 c2 : Nat) (A3 : Option Addr) (n3 c3 : Nat) (A4 : Option Addr) (n4 c4 : Nat) (A0 : Option Addr) (c0 : Nat) (l : List ByteArray) (w : World) (hb : w.heap[g]? = some (.cells #[b, n, c, k, r, x, .int .i64 err] 118 (0, 0)))
  (hC : Kd.C k78 w A1 cols.length cols) (hc : cols.length ≤ c1) (hr0 : Kd.C Kd.string w A0 l.length l) (hc0 : l.length ≤ c0) (hs : l.length ≤ 2000000) :
  Calls Tryz.prog 115 #[.pointer (some ⟨g, 0, none⟩), .agg #[.string f0, .slice A1 cols.length c1, .slice A2 n2 c2, .slice A3 n3 c3, .slice A4 n4 c4], .slice A0 l.length c0] w
   fun e w' => ∃ (A : Option Addr) (cc : Nat), e = .returned (.slice A (colsN cols l).length cc) ∧ (Kd.int .i64).R 3 w' w.heap.size (fun _ => True) (.slice A (colsN cols l).length cc) (colsN cols l) ∧ w'.heap[g]? = some (.cells #[b, n, c, k, r, x, .int .i64 (askE err (decide (-1 ∈ colsN cols l)) 71)] 118 (0, 0)) ∧ w.grownBy w' (some g) := by
 have hb0 : Below w.heap.size w (w.alloc (Obj.cells #[.string f0, .slice A1 cols.length c1, .slice A2 n2 c2, .slice A3 n3 c3, .slice A4 n4 c4] 72)) := (Below.refl _ _).alloc (Nat.le_refl _) _
 have HM := Aside0.mk (mapNum_walk f0 A1 c1 cols A2 n2 c2 A3 n3 c3 A4 n4 c4 w.heap.size A0 c0 l (w.alloc (Obj.cells #[.string f0, .slice A1 cols.length c1, .slice A2 n2 c2, .slice A3 n3 c3, .slice A4 n4 c4] 72)) (Kd.C_below hC hb0) hc (Go.Deep.blk_alloc_new w _) (Kd.C_below hr0 hb0) hc0 hs)
 have HG := Aside0.mk hb
 have HB := Aside0.mk hb0
 clear hC hr0 hb hb0
 generalize colsN cols l = nums at *
 go_enter Tryz.func115, Tryz.ntmps115
 go_wp2_with (first
  | (go_at_call 152; refine HM.out.mono ?_; rintro e w1 ⟨v1, rfl, hv1, hb1⟩; obtain ⟨A5, c5, e5⟩ := Kd.R_slice hv1; subst e5; have HV1 := Aside0.mk (Kd.R_lower hv1 HB.out.size); have HB1 := Aside0.mk (below_step HB.out hb1); have HRD := Aside0.mk (Kd.R_reads' hv1); clear hv1 hb1)
  | (go_at_call 154; refine (contains_walk A5 c5 nums (-1) w1 HRD.out.2.2 HRD.out.2.1).mono ?_; rintro e w2 ⟨rfl, hb2⟩; have HB2 := Aside0.mk hb2; clear hb2)
  | (go_at_call 63; refine (ask_walk g b n c k r x err _ _ w2 ((HB2.out.block g (Nat.lt_of_lt_of_le (blk_lt HG.out) HB1.out.size)).trans ((HB1.out.block g (blk_lt HG.out)).trans HG.out))).mono ?_; rintro e w3 ⟨rfl, hg3, hk3⟩; have HG3 := Aside0.mk hg3; have HK3 := Aside0.mk hk3; clear hg3 hk3))
 go_ret
 refine ⟨_, _, rfl, ?_, HG3.out, grown_trans (grown_below (below_step HB1.out HB2.out) _) HK3.out⟩
 exact Kd.R_mono (Kd.R_grown (Kd.R_bound (Kd.R_below HV1.out HB2.out)) HK3.out (fun k hk he => by injection he with he; have := blk_lt HG.out; have := hk.2.1; omega)) (fun k hk => trivial)
def UptoI (cur : List Int) (i : Nat) : Prop := ∀ a b, a < b → b < i → cur.getD a 0 ≤ cur.getD b 0
def InsI (cur : List Int) (i j : Nat) : Prop := (∀ a b, a < b → b ≤ i → a ≠ j → b ≠ j → cur.getD a 0 ≤ cur.getD b 0) ∧ (∀ b, j < b → b ≤ i → cur.getD j 0 ≤ cur.getD b 0)
theorem insI_start {cur : List Int} {i : Nat} (h : UptoI cur i) : InsI cur i i := ⟨fun a b h1 h2 h3 h4 => h a b h1 (by omega), fun b h1 h2 => by omega⟩
theorem insI_end {cur : List Int} {i j : Nat} (h : InsI cur i j) (hj : j = 0 ∨ ¬ cur.getD j 0 < cur.getD (j - 1) 0) (hji : j ≤ i) : UptoI cur (i + 1) := fun a b h1 h2 => by
 by_cases e : b = j
 ·subst e
  rcases hj with hj | hj
  ·omega
  ·by_cases e2 : a = b - 1
   ·subst e2; omega
   ·have := h.1 a (b - 1) (by omega) (by omega) (by omega) (by omega)
    omega
 ·by_cases e2 : a = j
  ·subst e2; exact h.2 b h1 (by omega)
  ·exact h.1 a b h1 (by omega) e2 e
theorem insI_exch {cur : List Int} {i j : Nat} (h : InsI cur i (j + 1)) (hl : j + 1 < cur.length) (hi : i < cur.length) (hji : j + 1 ≤ i) (hlt : cur.getD (j + 1) 0 < cur.getD j 0) : InsI (exch cur j (j + 1)) i j := by
 refine ⟨fun a b h1 h2 h3 h4 => ?_, fun b h1 h2 => ?_⟩
 ·rw [exch_at _ _ _ _ (by omega), exch_at _ _ _ _ (by omega), if_neg h3, if_neg h4]
  split
  ·rename_i e; subst e
   rw [if_neg (by omega)]
   exact h.1 j b (by omega) h2 (by omega) (by omega)
  ·split
   ·rename_i e1 e2; subst e2
    have := h.1 a j (by omega) (by omega) (by omega) (by omega)
    exact this
   ·exact h.1 a b h1 h2 (by assumption) (by assumption)
 ·rw [exch_at _ _ _ _ (by omega), exch_at _ _ _ _ (by omega), if_neg (by omega), if_pos rfl]
  split
  ·omega
  ·rw [if_neg (by omega)]
   exact h.2 b (by omega) h2
theorem uptoI_sorted {cur : List Int} {i : Nat} (h : UptoI cur i) (hi : cur.length ≤ i) : cur.Pairwise (· ≤ ·) := by
 rw [List.pairwise_iff_getElem]
 intro a b ha hb hab
 have := h a b hab (by omega)
 rw [List.getD_eq_getElem?_getD, List.getD_eq_getElem?_getD, List.getElem?_eq_getElem ha, List.getElem?_eq_getElem hb] at this
 exact this
set_option maxHeartbeats 4000000 in
set_option maxRecDepth 100000 in
theorem insSort_walk (A : Option Addr) (cap : Nat) (l r : List Int) (base : Nat) (ok : Nat → Prop) (w : World) (hO : (Kd.int .i64).R 3 w base ok (.slice A l.length cap) l) (hl : l.length ≤ 100) (hr : r.Perm l) (hrs : r.Pairwise (· ≤ ·)) :
  Calls Tryz.prog 177 #[.slice A l.length cap, .int .i64 0, .int .i64 l.length] w fun e w' => e = .returned (.tuple #[]) ∧ (Kd.int .i64).R 3 w' base ok (.slice A l.length cap) r ∧ w.grownBy w' (Value.slice A l.length cap).ownBlock := by
 have HO1 := Aside0.mk hO
 have HG1 := Aside0.mk (grown_refl w (Value.slice A l.length cap).ownBlock)
 have HRP := Aside0.mk hr
 have HRS := Aside0.mk hrs
 clear hO hr hrs
 go_enter Tryz.func177, Tryz.ntmps177
 go_wp2
 go_loopg [6] (l.length + 1) (fun gk v6 wx => ∃ (i : Nat) (cur : List Int), i + gk = l.length + 1 + 1 ∧ 1 ≤ i ∧ v6 = .int .i64 i ∧ Aside0 (cur.Perm l) ∧ Aside0 (UptoI cur i) ∧ Aside0 ((Kd.int .i64).R 3 wx base ok (.slice A l.length cap) cur) ∧ Aside0 (w.grownBy wx (Value.slice A l.length cap).ownBlock))
 case atStart => exact ⟨1, l, by omega, by omega, rfl, ⟨List.Perm.refl _⟩, ⟨fun a b h1 h2 => by omega⟩, HO1, HG1⟩
 case round =>
  clear HO1 HG1
  obtain ⟨i, cur, hi, hi1, rfl, HP, HU, HO, HG⟩ := hrel
  have HCL := Aside0.mk HP.out.length_eq
  by_cases q : i < l.length
  case neg =>
   have hii : ¬ (i : Int) < (l.length : Int) := by omega
   have e : r = cur := sort_one _ _ (HRP.out.trans HP.out.symm) HRS.out (uptoI_sorted HU.out (by rw [HCL.out]; omega))
   have HO2 : Aside0 ((Kd.int .i64).R 3 wr base ok (.slice A l.length cap) r) := ⟨by rw [e]; exact HO.out⟩
   clear e q
   go_wp2
   go_end0
   exact ⟨rfl, HO2.out, HG.out⟩
  case pos =>
   obtain ⟨gk, rfl⟩ : ∃ m, gk = m + 1 := ⟨gk - 1, by omega⟩
   have hii : (i : Int) < (l.length : Int) := by omega
   obtain ⟨g, cap', ev, _⟩ := Kd.R_form HO.out (by rw [HCL.out]; omega)
   rw [HCL.out] at ev
   simp only [Value.slice.injEq, true_and] at ev
   obtain ⟨eA, eC⟩ := ev
   subst eA
   subst eC
   have HIN : Aside0 (InsI cur i i) := ⟨insI_start HU.out⟩
   go_wp2
   clear HCL
   go_loopg [7] i (fun gj v7 wx => ∃ (j : Nat) (cur : List Int), j = gj ∧ j ≤ i ∧ v7 = .int .i64 j ∧ Aside0 (cur.Perm l) ∧ Aside0 (InsI cur i j) ∧ Aside0 ((Kd.int .i64).R 3 wx base ok (.slice (some ⟨g, 0, none⟩) l.length cap) cur) ∧ Aside0 (w.grownBy wx (Value.slice (some ⟨g, 0, none⟩) l.length cap).ownBlock))
   case atStart => exact ⟨i, cur, rfl, Nat.le_refl _, rfl, HP, HIN, HO, HG⟩
   case round =>
    clear HP HU HIN HO HG
    obtain ⟨j, cu, rfl, hji, rfl, HP, HIN, HO, HG⟩ := hrel
    have HCL := Aside0.mk HP.out.length_eq
    by_cases hz : j = 0
    case pos =>
     subst hz
     have HU2 : Aside0 (UptoI cu (i + 1)) := ⟨insI_end HIN.out (.inl rfl) hji⟩
     clear HIN
     have HO2 : Aside0 (∀ nq, (Kd.int .i64).R 3 (wr.drewN nq) base ok (.slice (some ⟨g, 0, none⟩) l.length cap) cu) := ⟨fun nq => Kd.R_drewN HO.out nq⟩
     have HG2 : Aside0 (∀ nq, w.grownBy (wr.drewN nq) (Value.slice (some ⟨g, 0, none⟩) l.length cap).ownBlock) := ⟨fun nq => grown_trans HG.out (grown_below (pw_below_drewN (Below.refl _ _) nq) _)⟩
     clear HO HG
     go_wp2
     go_quiet (fail)
     go_wp2
     have HO3 := Aside0.mk (HO2.out nq)
     have HG3 := Aside0.mk (HG2.out nq)
     go_roundg gk
     case measure => omega
     case rel => exact ⟨i + 1, cu, by omega, by omega, by first | rfl | (simp; done) | (simp; unfold wrap64; omega), HP, HU2, HO3, HG3⟩
    case neg =>
     obtain ⟨p, hp⟩ : ∃ p, p + 1 = j := ⟨j - 1, by omega⟩
     have hjl : j < cu.length := by rw [HCL.out]; omega
     have hil : i < cu.length := by rw [HCL.out]; omega
     have hj0 : 0 < j := by omega
     have d0 : decide (0 < j) = true := decide_eq_true hj0
     have hjn : (j : Int) < (l.length : Int) := by omega
     have hw : (j : Int) - 1 = (p : Int) := by omega
     obtain ⟨xj, fj, _⟩ := R_num HO.out j hjl
     obtain ⟨xi, fi, hsi⟩ := R_num HO.out p (by omega)
     have hpl : p < cu.length := by omega
     have hpn : (p : Int) < (l.length : Int) := by omega
     have hwp : IntKind.i64.wrap (p : Int) = (p : Int) := by rw [IntKind.wrap_i64]; omega
     by_cases q2 : cu.getD j 0 < cu.getD p 0
     ·have d1 : decide (cu.getD j 0 < cu.getD p 0) = true := decide_eq_true q2
      have HO2 : Aside0 (∀ n2, (Kd.int .i64).R 3 (((wr.drew.drewN n2).setCell ⟨g, j, none⟩ (.int .i64 (cu.getD p 0))).setCell ⟨g, p, none⟩ (.int .i64 (cu.getD j 0))) base ok (.slice (some ⟨g, 0, none⟩) l.length cap) (exch cu p j)) := ⟨fun n2 => by
       have h3 := (R_num (Kd.R_drewN (Kd.R_drew HO.out) n2) j hjl).2.2 (cu.getD p 0)
       have h4 := (R_num h3 p (by rw [List.length_set]; exact hpl)).2.2 (cu.getD j 0)
       have e : (cu.set j (cu.getD p 0)).set p (cu.getD j 0) = exch cu p j := by unfold exch; rw [List.set_comm _ _ (by omega)]
       rw [e] at h4; exact h4⟩
      have HG2 : Aside0 (∀ n2, w.grownBy (((wr.drew.drewN n2).setCell ⟨g, j, none⟩ (.int .i64 (cu.getD p 0))).setCell ⟨g, p, none⟩ (.int .i64 (cu.getD j 0))) (Value.slice (some ⟨g, 0, none⟩) l.length cap).ownBlock) := ⟨fun n2 => grown_trans (grown_trans (grown_trans (grown_trans HG.out (grown_drew _ _)) (grown_below (pw_below_drewN (Below.refl _ _) n2) _)) (grown_set _ g j _)) (grown_set _ g p _)⟩
      have HP2 : Aside0 ((exch cu p j).Perm l) := ⟨(exch_perm cu p j hpl hjl).trans HP.out⟩
      have HI2 : Aside0 (InsI (exch cu p j) i p) := ⟨by subst hp; exact insI_exch HIN.out hjl hil (by omega) q2⟩
      clear q2 HP HIN HO HG HCL hsi
      generalize cu.getD j 0 = yj at *
      generalize cu.getD p 0 = yi at *
      generalize exch cu p j = cu2 at *
      go_wp2
      have KS : wr.drew.cell? ⟨g, j, none⟩ = some (.int .i64 yj) ∧ wr.drew.cell? ⟨g, p, none⟩ = some (.int .i64 yi) := ⟨xj, xi⟩
      go_region_held3 (fun W => W.cell? ⟨g, j, none⟩ = some (.int .i64 yj) ∧ W.cell? ⟨g, p, none⟩ = some (.int .i64 yi)) (exact KS) ((go_at_call 92; refine (less_walk _ _ _).mono ?_; rintro e w' ⟨rfl, rfl⟩))
      go_wp2
      have KT : (wr.drew.drewN 1).cell? ⟨g, j, none⟩ = some (.int .i64 yj) ∧ (wr.drew.drewN 1).cell? ⟨g, p, none⟩ = some (.int .i64 yi) := ⟨xj, xi⟩
      refine start_ (n := 18) (S := fun W => W.cell? ⟨g, j, none⟩ = some (.int .i64 yj) ∧ W.cell? ⟨g, p, none⟩ = some (.int .i64 yi)) (ds := [15, 17]) #[false, false, false, false, false, false, false, false, false, false, false, false, false, false, false, false, false, false] (by kernel_rfl) rfl rfl KT (fun hHeld => ?_)
      refine pure_ (i := 0) (N := some 33) (v := ?_) (a' := ?_) #[true, false, false, false, false, false, false, false, false, false, false, false, false, false, false, false, false, false] rfl rfl (by kernel_rfl) (fun _ _ _ h => h) (Or.inl ⟨by rfl, ?_⟩) ?_ ?_
      rotate_left
      ·intro w'; go_simp; with_reducible rfl
      rotate_left
      ·simp only [Act.put, List.setIfInBounds_toArray, List.set_cons_zero, List.set_cons_succ, i64_w, i32_w]; rfl
      refine pure_ (i := 1) (N := some 34) (v := ?_) (a' := ?_) #[true, true, false, false, false, false, false, false, false, false, false, false, false, false, false, false, false, false] rfl rfl (by kernel_rfl) (fun _ _ _ h => h) (Or.inl ⟨by rfl, ?_⟩) ?_ ?_
      rotate_left
      ·intro w'; go_simp; with_reducible rfl
      rotate_left
      ·simp only [Act.put, List.setIfInBounds_toArray, List.set_cons_zero, List.set_cons_succ, i64_w, i32_w]; rfl
      refine pure_ (i := 2) (N := some 35) (v := ?_) (a' := ?_) #[true, true, true, false, false, false, false, false, false, false, false, false, false, false, false, false, false, false] rfl rfl (by kernel_rfl) (fun _ _ _ h => h) (Or.inl ⟨by rfl, ?_⟩) ?_ ?_
      rotate_left
      ·intro w'; go_simp; with_reducible rfl
      rotate_left
      ·simp only [Act.put, List.setIfInBounds_toArray, List.set_cons_zero, List.set_cons_succ, i64_w, i32_w]; rfl
      refine pure_ (i := 3) (N := some 36) (v := ?_) (a' := ?_) #[true, true, true, true, false, false, false, false, false, false, false, false, false, false, false, false, false, false] rfl rfl (by kernel_rfl) (fun _ _ _ h => h) (Or.inl ⟨by rfl, ?_⟩) ?_ ?_
      rotate_left
      ·intro w'; go_simp; with_reducible rfl
      rotate_left
      ·simp only [Act.put, List.setIfInBounds_toArray, List.set_cons_zero, List.set_cons_succ, i64_w, i32_w]; rfl
      refine pure_ (i := 4) (N := some 37) (v := ?_) (a' := ?_) #[true, true, true, true, true, false, false, false, false, false, false, false, false, false, false, false, false, false] rfl rfl (by kernel_rfl) (fun _ _ _ h => h) (Or.inl ⟨by rfl, ?_⟩) ?_ ?_
      rotate_left
      ·intro w'; go_simp; with_reducible rfl
      rotate_left
      ·simp only [Act.put, List.setIfInBounds_toArray, List.set_cons_zero, List.set_cons_succ, i64_w, i32_w]; rfl
      refine pure_ (i := 5) (N := some 38) (v := ?_) (a' := ?_) #[true, true, true, true, true, true, false, false, false, false, false, false, false, false, false, false, false, false] rfl rfl (by kernel_rfl) (fun _ _ _ h => h) (Or.inl ⟨by rfl, ?_⟩) ?_ ?_
      rotate_left
      ·intro w'; go_simp; with_reducible rfl
      rotate_left
      ·simp only [Act.put, List.setIfInBounds_toArray, List.set_cons_zero, List.set_cons_succ, i64_w, i32_w]; rfl
      refine pure_ (i := 6) (N := some 39) (v := ?_) (a' := ?_) #[true, true, true, true, true, true, true, false, false, false, false, false, false, false, false, false, false, false] rfl rfl (by kernel_rfl) (fun _ _ _ h => h) (Or.inl ⟨by rfl, ?_⟩) ?_ ?_
      rotate_left
      ·intro w'; go_simp; with_reducible rfl
      rotate_left
      ·simp only [Act.put, List.setIfInBounds_toArray, List.set_cons_zero, List.set_cons_succ, i64_w, i32_w]; rfl
      refine pure_ (i := 7) (N := some 40) (v := ?_) (a' := ?_) #[true, true, true, true, true, true, true, true, false, false, false, false, false, false, false, false, false, false] rfl rfl (by kernel_rfl) (fun _ _ _ h => h) (Or.inl ⟨by rfl, ?_⟩) ?_ ?_
      rotate_left
      ·intro w'; go_simp; with_reducible rfl
      rotate_left
      ·simp only [Act.put, List.setIfInBounds_toArray, List.set_cons_zero, List.set_cons_succ, i64_w, i32_w]; rfl
      refine pure_ (i := 8) (N := some 41) (v := ?_) (a' := ?_) #[true, true, true, true, true, true, true, true, true, false, false, false, false, false, false, false, false, false] rfl rfl (by kernel_rfl) (fun _ _ _ h => h) (Or.inl ⟨by rfl, ?_⟩) ?_ ?_
      rotate_left
      ·intro w'; go_simp; with_reducible rfl
      rotate_left
      ·simp only [Act.put, List.setIfInBounds_toArray, List.set_cons_zero, List.set_cons_succ, i64_w, i32_w]; rfl
      refine take_ (i := 9) (N := some 42) (v := ?_) (a' := ?_) #[true, true, true, true, true, true, true, true, true, true, false, false, false, false, false, false, false, false] rfl rfl (by kernel_rfl) (fun _ _ _ h => h) (Or.inl ⟨by rfl, ?_⟩) hHeld ?_ ?_
      rotate_left
      ·rintro w' ⟨s0, s1⟩; go_simp; with_reducible rfl
      rotate_left
      ·simp only [Act.put, List.setIfInBounds_toArray, List.set_cons_zero, List.set_cons_succ, i64_w, i32_w]; rfl
      refine pure_ (i := 10) (N := some 43) (v := ?_) (a' := ?_) #[true, true, true, true, true, true, true, true, true, true, true, false, false, false, false, false, false, false] rfl rfl (by kernel_rfl) (fun _ _ _ h => h) (Or.inl ⟨by rfl, ?_⟩) ?_ ?_
      rotate_left
      ·intro w'; go_simp; with_reducible rfl
      rotate_left
      ·simp only [Act.put, List.setIfInBounds_toArray, List.set_cons_zero, List.set_cons_succ, i64_w, i32_w]; rfl
      refine pure_ (i := 11) (N := some 44) (v := ?_) (a' := ?_) #[true, true, true, true, true, true, true, true, true, true, true, true, false, false, false, false, false, false] rfl rfl (by kernel_rfl) (fun _ _ _ h => h) (Or.inl ⟨by rfl, ?_⟩) ?_ ?_
      rotate_left
      ·intro w'; go_simp; with_reducible rfl
      rotate_left
      ·simp only [Act.put, List.setIfInBounds_toArray, List.set_cons_zero, List.set_cons_succ, i64_w, i32_w]; rfl
      refine pure_ (i := 12) (N := some 45) (v := ?_) (a' := ?_) #[true, true, true, true, true, true, true, true, true, true, true, true, true, false, false, false, false, false] rfl rfl (by kernel_rfl) (fun _ _ _ h => h) (Or.inl ⟨by rfl, ?_⟩) ?_ ?_
      rotate_left
      ·intro w'; go_simp; with_reducible rfl
      rotate_left
      ·simp only [Act.put, List.setIfInBounds_toArray, List.set_cons_zero, List.set_cons_succ, i64_w, i32_w]; rfl
      refine take_ (i := 13) (N := some 46) (v := ?_) (a' := ?_) #[true, true, true, true, true, true, true, true, true, true, true, true, true, true, false, false, false, false] rfl rfl (by kernel_rfl) (fun _ _ _ h => h) (Or.inl ⟨by rfl, ?_⟩) hHeld ?_ ?_
      rotate_left
      ·rintro w' ⟨s0, s1⟩; go_simp; with_reducible rfl
      rotate_left
      ·simp only [Act.put, List.setIfInBounds_toArray, List.set_cons_zero, List.set_cons_succ, i64_w, i32_w]; rfl
      refine pure_ (i := 14) (N := some 47) (v := ?_) (a' := ?_) #[true, true, true, true, true, true, true, true, true, true, true, true, true, true, true, false, false, false] rfl rfl (by kernel_rfl) (fun _ _ _ h => h) (Or.inl ⟨by rfl, ?_⟩) ?_ ?_
      rotate_left
      ·intro w'; go_simp; with_reducible rfl
      rotate_left
      ·simp only [Act.put, List.setIfInBounds_toArray, List.set_cons_zero, List.set_cons_succ, i64_w, i32_w]; rfl
      refine last_ (i := 15) (N := none) #[true, true, true, true, true, true, true, true, true, true, true, true, true, true, true, true, false, false] rfl rfl (by kernel_rfl) (by decide) (fun K hK => ?_)
      have hne : p ≠ j := by omega
      have hne2 : j ≠ p := by omega
      obtain ⟨y0, y1⟩ := hHeld
      refine skip_ (w1 := ?_) (by rfl) rfl ?_ ?_
      rotate_left
      ·go_simp
       rfl
      refine hK.out _ _ ?_
      clear hK K
      refine pure_ (i := 16) (N := some 48) (v := ?_) (a' := ?_) #[true, true, true, true, true, true, true, true, true, true, true, true, true, true, true, true, true, false] rfl rfl (by kernel_rfl) (fun _ _ _ h => h) (Or.inl ⟨by rfl, ?_⟩) ?_ ?_
      rotate_left
      ·intro w'; go_simp; with_reducible rfl
      rotate_left
      ·simp only [Act.put, List.setIfInBounds_toArray, List.set_cons_zero, List.set_cons_succ, i64_w, i32_w]; rfl
      refine last_ (i := 17) (N := none) #[true, true, true, true, true, true, true, true, true, true, true, true, true, true, true, true, true, true] rfl rfl (by kernel_rfl) (by decide) (fun K hK => ?_)
      refine skip_ (w1 := ?_) (by rfl) rfl ?_ ?_
      rotate_left
      ·go_simp
       rfl
      refine hK.out _ _ ?_
      clear hK K
      refine done_ (by kernel_rfl) ?_
      have HO3 := Aside0.mk (HO2.out 1)
      have HG3 := Aside0.mk (HG2.out 1)
      clear HO2 HG2 y0 y1 KT KS xj xi fj fi
      go_wp2
      go_roundg p
      case measure => omega
      case rel => exact ⟨p, cu2, rfl, by omega, by first | rfl | (simp; done) | (simp; omega), HP2, HI2, HO3, HG3⟩
     ·have d1 : decide (cu.getD j 0 < cu.getD p 0) = false := decide_eq_false q2
      have HU2 : Aside0 (UptoI cu (i + 1)) := ⟨insI_end HIN.out (.inr (by rw [show j - 1 = p by omega]; exact q2)) hji⟩
      have HO2 : Aside0 (∀ nq, (Kd.int .i64).R 3 (wr.drew.drewN nq) base ok (.slice (some ⟨g, 0, none⟩) l.length cap) cu) := ⟨fun nq => Kd.R_drewN (Kd.R_drew HO.out) nq⟩
      have HG2 : Aside0 (∀ nq, w.grownBy (wr.drew.drewN nq) (Value.slice (some ⟨g, 0, none⟩) l.length cap).ownBlock) := ⟨fun nq => grown_trans (grown_trans HG.out (grown_drew _ _)) (grown_below (pw_below_drewN (Below.refl _ _) nq) _)⟩
      clear q2 HIN HO HG HCL hsi
      generalize cu.getD j 0 = yj at *
      generalize cu.getD p 0 = yi at *
      go_wp2
      have KS : wr.drew.cell? ⟨g, j, none⟩ = some (.int .i64 yj) ∧ wr.drew.cell? ⟨g, p, none⟩ = some (.int .i64 yi) := ⟨xj, xi⟩
      go_region_held3 (fun W => W.cell? ⟨g, j, none⟩ = some (.int .i64 yj) ∧ W.cell? ⟨g, p, none⟩ = some (.int .i64 yi)) (exact KS) ((go_at_call 92; refine (less_walk _ _ _).mono ?_; rintro e w' ⟨rfl, rfl⟩))
      go_wp2
      have HO3 := Aside0.mk (HO2.out 0)
      have HG3 := Aside0.mk (HG2.out 0)
      go_roundg gk
      case measure => omega
      case rel => exact ⟨i + 1, cu, by omega, by omega, by first | rfl | (simp; done) | (simp; unfold wrap64; omega), HP, HU2, HO3, HG3⟩
end Go.Proofs.YthgfdnffnbclpaaGreatDoor.PAll
