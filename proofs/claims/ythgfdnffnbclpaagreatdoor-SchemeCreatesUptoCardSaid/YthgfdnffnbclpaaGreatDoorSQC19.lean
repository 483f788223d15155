import Derived.Test.YthgfdnffnbclpaaGreatDoorSQC18
import Derived.Test.YthgfdnffnbclpaaGreatDoorSQC12
set_option linter.unusedVariables false
set_option linter.unusedSimpArgs false
namespace Go.Proofs.YthgfdnffnbclpaaGreatDoor.PAll
open Go.RowKit Go.Proofs.YthgfdnffnbclpaaGreatDoorW.PrintWords Go.Proofs.YthgfdnffnbclpaaGreatDoorW.PrintLast Go.Proofs.YthgfdnffnbclpaaGreatDoorW.PrintMore
theorem zbP (s : ByteArray) (w : World) (hL : LaidL w) : Calls Tryz.prog 52 #[.string s] w fun e w' => e = .returned (.bool (nmB s)) ∧ Below w.heap.size w w' := lex_IsName.calls 40 s _ w (zgZ s 40 (Nat.le_refl _)) hL
theorem za9 (s : ByteArray) (w : World) : Calls Tryz.prog 48 #[.string s] w fun e w' => e = .returned (.bool (nmB s)) ∧ Below w.heap.size w w' := jointerref02_IsName.calls 460 s _ w (zct s 460 (Nat.le_refl _))
def zeE (x : S109) : Bool := !x.f2 && (x.f3 == 0 && x.f4 == 0)
def defB (x : S109) : Bool :=
 nmB x.f0 && (if x.f1 = 0 then zeE x || (x.f2 && decide (x.f3 ≤ x.f4)) else if x.f1 = 2 then zeE x || (x.f2 && (x.f3 == 0 && (decide (0 ≤ x.f4) && decide (x.f4 ≤ 100)))) else if x.f1 = 1 ∨ x.f1 = 3 then zeE x else false)
def namesB (l : List ByteArray) : Bool := decide (0 < l.length) && l.all nmB
def zea (r : S105) : Bool := namesB r.f0 && (namesB r.f2 && nmB r.f1)
theorem zfs (w : World) : ∀ (a b c d e f : Value) (W : World), Below (w.alloc (Obj.cells #[a, b, c, d, e, f] 109)).heap.size (w.alloc (Obj.cells #[a, b, c, d, e, f] 109)) W →
  W.cell? ⟨w.heap.size, 0, none⟩ = some a ∧ W.cell? ⟨w.heap.size, 1, none⟩ = some b ∧ W.cell? ⟨w.heap.size, 2, none⟩ = some c ∧ W.cell? ⟨w.heap.size, 3, none⟩ = some d ∧ W.cell? ⟨w.heap.size, 4, none⟩ = some e ∧ W.cell? ⟨w.heap.size, 5, none⟩ = some f := fun a b c d e f W hW => by
 have hb := Go.Deep.blk_alloc_new w (Obj.cells #[a, b, c, d, e, f] 109)
 have hb2 := (hW.block w.heap.size (zah hb)).trans hb
 exact ⟨(zad hb2 0).trans rfl, (zad hb2 1).trans rfl, (zad hb2 2).trans rfl, (zad hb2 3).trans rfl, (zad hb2 4).trans rfl, (zad hb2 5).trans rfl⟩
set_option maxHeartbeats 4000000 in
set_option maxRecDepth 100000 in
theorem zfd (x : S109) (w : World) (hL : LaidL w) : Calls Tryz.prog 55 #[.agg #[.string x.f0, .int .u8 x.f1, .bool x.f2, .int .i64 x.f3, .int .i64 x.f4, .bool x.f5]] w fun e w' => e = .returned (.bool (defB x)) ∧ Below w.heap.size w w' := by
 have HC := Aside0.mk (zfs w)
 have hb0 : ∀ o, Below w.heap.size w (w.alloc o) := fun o => (Below.refl _ _).alloc (Nat.le_refl _) _
 have HN : Aside0 (∀ a b c d e f : Value, Calls Tryz.prog 52 #[.string x.f0] (w.alloc (Obj.cells #[a, b, c, d, e, f] 109)) fun e_ w' => e_ = .returned (.bool (nmB x.f0)) ∧ Below (w.alloc (Obj.cells #[a, b, c, d, e, f] 109)).heap.size (w.alloc (Obj.cells #[a, b, c, d, e, f] 109)) w') := ⟨fun a b c d e f => zbP x.f0 _ (LaidL.below ⟨hL⟩ (hb0 _))⟩
 have HB := Aside0.mk hb0
 clear hL hb0
 unfold defB zeE
 obtain ⟨f0, f1, f2, f3, f4, f5⟩ := x
 simp only at HN ⊢
 cases hn : nmB f0 with
 | false =>
  rw [hn] at HN
  clear hn
  rw [Bool.false_and]
  go_enter Tryz.func55, Tryz.ntmps55
  go_wp2_with (go_at_call 52; refine (HN.out _ _ _ _ _ _).mono ?_; rintro e w1 ⟨rfl, hb1⟩; obtain ⟨z0, z1, z2, z3, z4, z5⟩ := HC.out _ _ _ _ _ _ _ hb1)
  all_goals (go_ret; first | exact ⟨rfl, below_step (HB.out _) hb1⟩ | exact ⟨rfl, HB.out _⟩)
 | true =>
  rw [hn] at HN
  clear hn
  go_enter Tryz.func55, Tryz.ntmps55
  go_wp2_with (go_at_call 52; refine (HN.out _ _ _ _ _ _).mono ?_; rintro e w1 ⟨rfl, hb1⟩; obtain ⟨z0, z1, z2, z3, z4, z5⟩ := HC.out _ _ _ _ _ _ _ hb1)
  all_goals (go_ret; clear HN HC)
  all_goals (first | exact ⟨by simp_all <;> omega, below_step (HB.out _) hb1⟩ | exact ⟨by simp_all <;> omega, HB.out _⟩)
set_option maxRecDepth 100000 in
theorem zgY (x : S109) (w : World) (hL : LaidL w) : Calls Tryz.prog 54 #[.agg #[.string x.f0, .int .u8 x.f1, .bool x.f2, .int .i64 x.f3, .int .i64 x.f4, .bool x.f5]] w fun e w' => e = .returned (.bool (!defB x)) ∧ Below w.heap.size w w' := by
 have hb0 : Below w.heap.size w (w.alloc (Obj.cells #[.string x.f0, .int .u8 x.f1, .bool x.f2, .int .i64 x.f3, .int .i64 x.f4, .bool x.f5] 109)) := (Below.refl _ _).alloc (Nat.le_refl _) _
 have HN := Aside0.mk (zfd x _ (LaidL.below ⟨hL⟩ hb0))
 have HB := Aside0.mk hb0
 clear hL hb0
 go_enter Tryz.func54, Tryz.ntmps54
 go_wp2_with (go_at_call 55; refine HN.out.mono ?_; rintro e w1 ⟨rfl, hb1⟩)
 go_ret
 exact ⟨rfl, below_step HB.out hb1⟩
theorem zfX (s : ByteArray) (w : World) (hL : LaidL w) : Calls Tryz.prog 113 #[.string s] w fun e w' => e = .returned (.bool (!nmB s)) ∧ Below w.heap.size w w' := by
 have HN := Aside0.mk (zbP s w hL)
 clear hL
 go_enter Tryz.func113, Tryz.ntmps113
 go_wp2_with (go_at_call 52; refine HN.out.mono ?_; rintro e w1 ⟨rfl, hb1⟩)
 go_ret
 exact ⟨rfl, hb1⟩
theorem zeR {α : Type} (p : α → Bool) (l : List α) : (!(l.any fun x => !p x)) = l.all p := by
 induction l with
 | nil => rfl
 | cons a r ih => rw [List.any_cons, List.all_cons, ← ih]; cases p a <;> simp
set_option maxRecDepth 100000 in
theorem zbp (A : Option Addr) (c : Nat) (l : List ByteArray) (w : World) (hC : Kd.C Kd.string w A l.length l) (hc : l.length ≤ c) (hL : LaidL w) : Calls Tryz.prog 58 #[.slice A l.length c] w fun e w' => e = .returned (.bool (namesB l)) ∧ Below w.heap.size w w' := by
 have HN := Aside0.mk (ziU A c l (fun s => !nmB s) w hC hc (fun s _ W hW => zfX s W (LaidL.below ⟨hL⟩ hW)))
 have HE := Aside0.mk (zeR nmB l)
 clear hC hL
 unfold namesB
 generalize (l.any fun s => !nmB s) = q at *
 go_enter Tryz.func58, Tryz.ntmps58
 by_cases h : 0 < l.length
 ·have d1 : decide (0 < l.length) = true := decide_eq_true h
  rw [d1, Bool.true_and, ← HE.out]
  clear h
  go_wp2_with (go_at_call 112; refine HN.out.mono ?_; rintro e w1 ⟨rfl, hb1⟩)
  go_ret
  exact ⟨rfl, hb1⟩
 ·have d1 : decide (0 < l.length) = false := decide_eq_false h
  rw [d1, Bool.false_and]
  clear h HE
  go_wp2
  go_ret
  exact ⟨rfl, Below.refl _ _⟩
theorem ze3 (A : Option Addr) (c : Nat) (l : List ByteArray) (w : World) (hC : Kd.C Kd.string w A l.length l) (hc : l.length ≤ c) (hL : LaidL w) : Calls Tryz.prog 57 #[.slice A l.length c] w fun e w' => e = .returned (.bool (!namesB l)) ∧ Below w.heap.size w w' := by
 have HN := Aside0.mk (zbp A c l w hC hc hL)
 clear hC hL
 go_enter Tryz.func57, Tryz.ntmps57
 go_wp2_with (go_at_call 58; refine HN.out.mono ?_; rintro e w1 ⟨rfl, hb1⟩)
 go_ret
 exact ⟨rfl, hb1⟩
theorem zij (w : World) (a b c : Value) : ∀ (W : World), Below (w.alloc (Obj.cells #[a, b, c] 105)).heap.size (w.alloc (Obj.cells #[a, b, c] 105)) W →
  W.cell? ⟨w.heap.size, 0, none⟩ = some a ∧ W.cell? ⟨w.heap.size, 1, none⟩ = some b ∧ W.cell? ⟨w.heap.size, 2, none⟩ = some c := fun W hW => by
 have hb := Go.Deep.blk_alloc_new w (Obj.cells #[a, b, c] 105)
 have hb2 := (hW.block w.heap.size (zah hb)).trans hb
 exact ⟨(zad hb2 0).trans rfl, (zad hb2 1).trans rfl, (zad hb2 2).trans rfl⟩
set_option maxHeartbeats 4000000 in
set_option maxRecDepth 100000 in
theorem zgD (A : Option Addr) (c : Nat) (A2 : Option Addr) (c2 : Nat) (x : S105) (w : World) (hC : Kd.C Kd.string w A x.f0.length x.f0) (hc : x.f0.length ≤ c) (hC2 : Kd.C Kd.string w A2 x.f2.length x.f2) (hc2 : x.f2.length ≤ c2) (hL : LaidL w) :
  Calls Tryz.prog 60 #[.agg #[.slice A x.f0.length c, .string x.f1, .slice A2 x.f2.length c2]] w fun e w' => e = .returned (.bool (!zea x)) ∧ Below w.heap.size w w' := by
 have hb0 : Below w.heap.size w (w.alloc (Obj.cells #[.slice A x.f0.length c, .string x.f1, .slice A2 x.f2.length c2] 105)) := (Below.refl _ _).alloc (Nat.le_refl _) _
 have HN1 : Aside0 (∀ W, Below w.heap.size w W → Calls Tryz.prog 58 #[.slice A x.f0.length c] W fun e w' => e = .returned (.bool (namesB x.f0)) ∧ Below W.heap.size W w') := ⟨fun W hW => zbp A c x.f0 W (Kd.C_below hC hW) hc (LaidL.below ⟨hL⟩ hW)⟩
 have HN2 : Aside0 (∀ W, Below w.heap.size w W → Calls Tryz.prog 58 #[.slice A2 x.f2.length c2] W fun e w' => e = .returned (.bool (namesB x.f2)) ∧ Below W.heap.size W w') := ⟨fun W hW => zbp A2 c2 x.f2 W (Kd.C_below hC2 hW) hc2 (LaidL.below ⟨hL⟩ hW)⟩
 have HN3 : Aside0 (∀ W, Below w.heap.size w W → Calls Tryz.prog 52 #[.string x.f1] W fun e w' => e = .returned (.bool (nmB x.f1)) ∧ Below W.heap.size W w') := ⟨fun W hW => zbP x.f1 W (LaidL.below ⟨hL⟩ hW)⟩
 have HR := Aside0.mk (zij w (.slice A x.f0.length c) (.string x.f1) (.slice A2 x.f2.length c2))
 have HB := Aside0.mk hb0
 clear hC hC2 hL hb0
 unfold zea
 generalize namesB x.f0 = q1 at *
 generalize namesB x.f2 = q2 at *
 generalize nmB x.f1 = q3 at *
 have HB1 : Aside0 (Below (w.alloc (Obj.cells #[.slice A x.f0.length c, .string x.f1, .slice A2 x.f2.length c2] 105)).heap.size (w.alloc (Obj.cells #[.slice A x.f0.length c, .string x.f1, .slice A2 x.f2.length c2] 105)) (w.alloc (Obj.cells #[.slice A x.f0.length c, .string x.f1, .slice A2 x.f2.length c2] 105))) := ⟨Below.refl _ _⟩
 go_enter Tryz.func60, Tryz.ntmps60
 cases q1 with
 | false =>
  go_wp2_with (go_at_call 58; refine (HN1.out _ HB.out).mono ?_; rintro e w1 ⟨rfl, hb1⟩)
  go_ret
  exact ⟨rfl, below_step HB.out hb1⟩
 | true =>
  cases q2 with
  | false =>
   go_wp2_with (first
    | (go_at_call 58; refine (HN1.out _ HB.out).mono ?_; rintro e w1 ⟨rfl, hb1⟩; obtain ⟨z0, z1, z2⟩ := HR.out _ hb1; clear HN1)
    | (go_at_call 58; refine (HN2.out _ (below_step HB.out hb1)).mono ?_; rintro e w2 ⟨rfl, hb2⟩))
   go_ret
   exact ⟨rfl, below_step (below_step HB.out hb1) hb2⟩
  | true =>
   go_wp2_with (first
    | (go_at_call 58; refine (HN1.out _ HB.out).mono ?_; rintro e w1 ⟨rfl, hb1⟩; obtain ⟨z0, z1, z2⟩ := HR.out _ hb1; clear HN1)
    | (go_at_call 58; refine (HN2.out _ (below_step HB.out hb1)).mono ?_; rintro e w2 ⟨rfl, hb2⟩; obtain ⟨y0, y1, y2⟩ := HR.out _ (below_step hb1 hb2))
    | (go_at_call 52; refine (HN3.out _ (below_step (below_step HB.out hb1) hb2)).mono ?_; rintro e w3 ⟨rfl, hb3⟩))
   go_ret
   exact ⟨by simp, below_step (below_step (below_step HB.out hb1) hb2) hb3⟩
set_option maxHeartbeats 4000000 in
set_option maxRecDepth 100000 in
theorem zbR (A : Option Addr) (c : Nat) (l : List ByteArray) (w : World) (hC : Kd.C Kd.string w A l.length l) (hc : l.length ≤ c) :
  Calls Tryz.prog 101 #[.slice A l.length c] w fun e w' => e = .returned (.bool (namesB l)) ∧ Below w.heap.size w w' := by
 have HC := Aside0.mk hC
 have HB0 := Aside0.mk (Below.refl w.heap.size w)
 have hb9 := hC.2.1
 clear hC
 unfold namesB
 go_enter Tryz.func101, Tryz.ntmps101
 go_wp2
 go_loopg [3] l.length (fun gk v3 wx => ∃ (i : Nat), i + gk = l.length ∧ v3 = .int .i64 i ∧ Aside0 (Below w.heap.size w wx) ∧ Aside0 (l.all nmB = (l.drop i).all nmB))
 case atStart => exact ⟨0, by omega, rfl, HB0, ⟨by simp⟩⟩
 case round =>
  clear HB0
  obtain ⟨i, hi, rfl, HW, HP⟩ := hrel
  cases gk with
  | zero =>
   have hp := HP.out
   rw [List.drop_eq_nil_of_le (by omega)] at hp
   have HP2 : Aside0 (l.all nmB = true) := ⟨hp⟩
   have hii : ¬ (i : Int) < (l.length : Int) := by omega
   clear hp HP
   go_wp2
   go_ret
   exact ⟨by rw [HP2.out, Bool.and_true]; first | rfl | (congr 2; simp; done) | simp, HW.out⟩
  | succ gk =>
   have hlt : i < l.length := by omega
   have hii : (i : Int) < (l.length : Int) := by omega
   have hi0 : (0 : Int) ≤ (i : Int) := by omega
   have hrd : rdOf ByteArray.empty l (i : Int) = l[i] := by unfold rdOf; simp [List.getD, hlt]
   obtain ⟨ad, hA, x0⟩ := Kd.at_string HC.out (i : Int) hi0 hii
   cases hA
   rw [hrd, Int.toNat_natCast] at x0
   replace x0 := (HW.out.cell (World.block_lt_of_cell? w _ x0)).trans x0
   have hp := HP.out
   rw [List.drop_eq_getElem_cons hlt, List.all_cons] at hp
   have HX := Aside0.mk (za9 l[i] wr)
   clear hrd HP
   generalize l[i] = x at *
   cases hn : nmB x with
   | false =>
    rw [hn] at HX hp
    have HP2 : Aside0 (l.all nmB = false) := ⟨by simpa using hp⟩
    clear hp hn
    go_wp2_with (go_at_call 48; refine HX.out.mono ?_; rintro e w1 ⟨rfl, hb1⟩)
    go_ret
    exact ⟨by rw [HP2.out, Bool.and_false]; rfl, below_step HW.out hb1⟩
   | true =>
    rw [hn] at HX hp
    have HP2 : Aside0 (l.all nmB = (l.drop (i + 1)).all nmB) := ⟨by simpa using hp⟩
    clear hp hn
    go_wp2_with (go_at_call 48; refine HX.out.mono ?_; rintro e w1 ⟨rfl, hb1⟩; have HW1 := Aside0.mk (below_step HW.out hb1); clear hb1)
    go_roundg gk
    case measure => omega
    case rel => exact ⟨i + 1, by omega, by first | rfl | (simp; done) | (simp; unfold wrap64; omega), HW1, HP2⟩
set_option maxHeartbeats 4000000 in
set_option maxRecDepth 100000 in
theorem zgy (x : S109) (w : World) : Calls Tryz.prog 100 #[.agg #[.string x.f0, .int .u8 x.f1, .bool x.f2, .int .i64 x.f3, .int .i64 x.f4, .bool x.f5]] w fun e w' => e = .returned (.bool (defB x)) ∧ Below w.heap.size w w' := by
 have HC := Aside0.mk (zfs w)
 have hb0 : ∀ o, Below w.heap.size w (w.alloc o) := fun o => (Below.refl _ _).alloc (Nat.le_refl _) _
 have HN : Aside0 (∀ a b c d e f : Value, Calls Tryz.prog 48 #[.string x.f0] (w.alloc (Obj.cells #[a, b, c, d, e, f] 109)) fun e_ w' => e_ = .returned (.bool (nmB x.f0)) ∧ Below (w.alloc (Obj.cells #[a, b, c, d, e, f] 109)).heap.size (w.alloc (Obj.cells #[a, b, c, d, e, f] 109)) w') := ⟨fun a b c d e f => za9 x.f0 _⟩
 have HB := Aside0.mk hb0
 clear hb0
 unfold defB zeE
 obtain ⟨f0, f1, f2, f3, f4, f5⟩ := x
 simp only at HN ⊢
 cases hn : nmB f0 with
 | false =>
  rw [hn] at HN
  clear hn
  rw [Bool.false_and]
  go_enter Tryz.func100, Tryz.ntmps100
  go_wp2_with (go_at_call 48; refine (HN.out _ _ _ _ _ _).mono ?_; rintro e w1 ⟨rfl, hb1⟩; obtain ⟨z0, z1, z2, z3, z4, z5⟩ := HC.out _ _ _ _ _ _ _ hb1)
  all_goals (go_ret; first | exact ⟨rfl, below_step (HB.out _) hb1⟩ | exact ⟨rfl, HB.out _⟩)
 | true =>
  rw [hn] at HN
  clear hn
  go_enter Tryz.func100, Tryz.ntmps100
  go_wp2_with (go_at_call 48; refine (HN.out _ _ _ _ _ _).mono ?_; rintro e w1 ⟨rfl, hb1⟩; obtain ⟨z0, z1, z2, z3, z4, z5⟩ := HC.out _ _ _ _ _ _ _ hb1)
  all_goals (go_ret; clear HN HC)
  all_goals (first | exact ⟨by simp_all <;> omega, below_step (HB.out _) hb1⟩ | exact ⟨by simp_all <;> omega, HB.out _⟩)
set_option maxHeartbeats 4000000 in
set_option maxRecDepth 100000 in
theorem zb4 (A : Option Addr) (c : Nat) (l : List ByteArray) (w : World) (hC : Kd.C Kd.string w A l.length l) (hc : l.length ≤ c) :
  Calls Tryz.prog 105 #[.slice A l.length c] w fun e w' => e = .returned (.bool (!zbJ [] l)) ∧ Below w.heap.size w w' := by
 have HC := Aside0.mk hC
 have HB0 := Aside0.mk (Below.refl w.heap.size w)
 have hb9 := hC.2.1
 clear hC
 go_enter Tryz.func105, Tryz.ntmps105
 go_wp2
 go_loopg [3] l.length (fun gk v3 wx => ∃ (i : Nat), i + gk = l.length ∧ v3 = .int .i64 i ∧ Aside0 (Below w.heap.size w wx) ∧ Aside0 (zbJ [] l = zbJ (l.take i) (l.drop i)))
 case atStart => exact ⟨0, by omega, rfl, HB0, ⟨by simp⟩⟩
 case round =>
  clear HB0
  obtain ⟨i, hi, rfl, HW, HP⟩ := hrel
  cases gk with
  | zero =>
   have hp := HP.out
   rw [List.drop_eq_nil_of_le (by omega), zbJ] at hp
   have HP2 := Aside0.mk hp
   have hii : ¬ (i : Int) < (l.length : Int) := by omega
   clear hp HP
   go_wp2
   go_ret
   exact ⟨by rw [HP2.out]; rfl, HW.out⟩
  | succ gk =>
   have hlt : i < l.length := by omega
   have hii : (i : Int) < (l.length : Int) := by omega
   have hi0 : (0 : Int) ≤ (i : Int) := by omega
   have hp := HP.out
   rw [zdx l i hlt] at hp
   have HQ := Aside0.mk hp
   clear hp HP
   go_wp2
   go_loopg [4] i (fun gj v4 wx => ∃ (j : Nat), j + gj = i ∧ v4 = .int .i64 j ∧ Aside0 (Below w.heap.size w wx) ∧ Aside0 (memP l[i] (l.take i) = memP l[i] ((l.take i).drop j)))
   case atStart => exact ⟨0, by omega, rfl, HW, ⟨by simp⟩⟩
   case round =>
    clear HW
    obtain ⟨j, hj, rfl, HW, HM⟩ := hrel
    cases gk with
    | zero =>
     have hjj : ¬ (j : Int) < (i : Int) := by omega
     have hm := HM.out
     rw [List.drop_eq_nil_of_le (by rw [List.length_take]; omega)] at hm
     have hq := HQ.out
     rw [if_neg (by rw [hm]; simp [memP])] at hq
     have HP2 := Aside0.mk hq
     clear hm hq HM HQ
     go_wp2
     go_roundg gk
     case measure => omega
     case rel => exact ⟨i + 1, by omega, by first | rfl | (simp; done) | (simp; unfold wrap64; omega), HW, HP2⟩
    | succ gj =>
     have hjlt : j < l.length := by omega
     have hjj : (j : Int) < (i : Int) := by omega
     have hjl : (j : Int) < (l.length : Int) := by omega
     have hj0 : (0 : Int) ≤ (j : Int) := by omega
     have hrd : rdOf ByteArray.empty l (i : Int) = l[i] := by unfold rdOf; simp [List.getD, hlt]
     have hrdj : rdOf ByteArray.empty l (j : Int) = l[j] := by unfold rdOf; simp [List.getD, hjlt]
     obtain ⟨ad, hA, x0⟩ := Kd.at_string HC.out (i : Int) hi0 hii
     obtain ⟨ad', hA', y0⟩ := Kd.at_string HC.out (j : Int) hj0 hjl
     rw [hA] at hA'
     cases hA'
     cases hA
     rw [hrd, Int.toNat_natCast] at x0
     rw [hrdj, Int.toNat_natCast] at y0
     replace x0 := (HW.out.cell (World.block_lt_of_cell? w _ x0)).trans x0
     replace y0 := (HW.out.cell (World.block_lt_of_cell? w _ y0)).trans y0
     have hm := HM.out
     have hdr : (l.take i).drop j = l[j] :: (l.take i).drop (j + 1) := by
      rw [List.drop_eq_getElem_cons (by rw [List.length_take]; omega), List.getElem_take]
     rw [hdr] at hm
     have HBN : Aside0 (∀ nq, Below w.heap.size w (wr.drewN nq)) := ⟨fun nq => below_step HW.out (zaa (Below.refl _ _) nq)⟩
     clear hrd hrdj hdr HM
     generalize l[i] = x at *
     generalize l[j] = y at *
     by_cases q : x.toList = y.toList
     ·have d1 : (x.toList == y.toList) = true := beq_iff_eq.mpr q
      have q2 : x = y := by rw [Lib.toList_data, Lib.toList_data] at q; exact ByteArray.ext (Array.toList_inj.1 q)
      have HP2 : Aside0 (zbJ [] l = false) := ⟨by rw [HQ.out, if_pos (by rw [hm, q2]; simp [memP])]⟩
      clear q2
      clear q hm HQ
      go_wp2
      go_quiet (fail)
      go_wp2
      go_ret
      exact ⟨by rw [HP2.out]; rfl, HBN.out _⟩
     ·have d1 : (x.toList == y.toList) = false := beq_eq_false_iff_ne.mpr q
      have HM2 : Aside0 (memP x (l.take i) = memP x ((l.take i).drop (j + 1))) := ⟨by rw [hm]; unfold memP; rw [List.any_cons, decide_eq_false (fun h => q (by rw [h])), Bool.false_or]⟩
      clear q hm
      go_wp2
      go_quiet (fail)
      go_wp2
      have HW2 := Aside0.mk (HBN.out nq)
      go_roundg gj
      case measure => omega
      case rel => exact ⟨j + 1, by omega, by first | rfl | (simp; done) | (simp; unfold wrap64; omega), HW2, HM2⟩
def madeC (x : S109) : S78 :=
 ⟨x.f0, if x.f1 = 0 then 1 else if x.f1 = 1 then 1 else if x.f1 = 2 then 2 else 3, x.f5,
  if x.f2 = true then x.f3 else if x.f1 = 0 then -2147483648 else if x.f1 = 1 then -9223372036854775808 else 0,
  if x.f2 = true then x.f4 else if x.f1 = 0 then 2147483647 else if x.f1 = 1 then 9223372036854775807 else if x.f1 = 2 then 100 else 0⟩
theorem zjp (w : World) {W : World} {A B C : Array Value} {t1 t2 t3 : TypeId} (hW : ((w.alloc (Obj.cells A t1)).alloc (Obj.cells B t2)).alloc (Obj.cells C t3) = W) :
  W.heap[w.heap.size]? = some (.cells A t1 (0, 0)) ∧ W.heap[w.heap.size + 1]? = some (.cells B t2 (0, 0)) ∧ W.heap[w.heap.size + 1 + 1]? = some (.cells C t3 (0, 0)) ∧ Below w.heap.size w W := by
 subst hW
 have s1 : (w.alloc (Obj.cells A t1)).heap.size = w.heap.size + 1 := Array.size_push _
 have s2 : ((w.alloc (Obj.cells A t1)).alloc (Obj.cells B t2)).heap.size = w.heap.size + 1 + 1 := by rw [← s1]; exact Array.size_push _
 have h1 := Go.Deep.blk_alloc_new w (Obj.cells A t1)
 have h2 := Go.Deep.blk_alloc_new (w.alloc (Obj.cells A t1)) (Obj.cells B t2)
 have h3 := Go.Deep.blk_alloc_new ((w.alloc (Obj.cells A t1)).alloc (Obj.cells B t2)) (Obj.cells C t3)
 rw [s1] at h2
 rw [s2] at h3
 exact ⟨zai (zai h1 _) _, zai h2 _, h3, zac (zac (zac (Below.refl _ _) _) _) _⟩
theorem five {W : World} {g t : Nat} {a b c d e : Value} (h : W.heap[g]? = some (.cells #[a, b, c, d, e] t (0, 0))) (a' b' c' d' e' : Value) :
  (((((W.setCell ⟨g, 0, none⟩ a').setCell ⟨g, 1, none⟩ b').setCell ⟨g, 2, none⟩ c').setCell ⟨g, 3, none⟩ d').setCell ⟨g, 4, none⟩ e').heap[g]? = some (.cells #[a', b', c', d', e'] t (0, 0)) :=
 zas (zas (zas (zas (zas h 0 _ rfl) 1 _ rfl) 2 _ rfl) 3 _ rfl) 4 _ rfl
theorem zaT {W : World} {g t : Nat} {a b c d e : Value} (h : W.heap[g]? = some (.cells #[a, b, c, d, e] t (0, 0))) :
  W.cell? ⟨g, 0, none⟩ = some a ∧ W.cell? ⟨g, 1, none⟩ = some b ∧ W.cell? ⟨g, 2, none⟩ = some c ∧ W.cell? ⟨g, 3, none⟩ = some d ∧ W.cell? ⟨g, 4, none⟩ = some e ∧ (W.frozen? ⟨g, 0, none⟩ = false ∧ W.frozen? ⟨g, 1, none⟩ = false ∧ W.frozen? ⟨g, 2, none⟩ = false ∧ W.frozen? ⟨g, 3, none⟩ = false ∧ W.frozen? ⟨g, 4, none⟩ = false) :=
 ⟨(zad h 0).trans rfl, (zad h 1).trans rfl, (zad h 2).trans rfl, (zad h 3).trans rfl, (zad h 4).trans rfl, zaf h 0, zaf h 1, zaf h 2, zaf h 3, zaf h 4⟩
set_option maxHeartbeats 4000000 in
set_option maxRecDepth 100000 in
theorem ziV (x : S109) (w : World) : Calls Tryz.prog 62 #[.agg #[.string x.f0, .int .u8 x.f1, .bool x.f2, .int .i64 x.f3, .int .i64 x.f4, .bool x.f5]] w fun e w' => e = .returned (.agg #[.string (madeC x).f0, .int .u8 (madeC x).f1, .bool (madeC x).f2, .int .i64 (madeC x).f3, .int .i64 (madeC x).f4]) ∧ Below w.heap.size w w' := by
 unfold madeC
 obtain ⟨f0, f1, f2, f3, f4, f5⟩ := x
 simp only
 cases f2 with
 | false =>
  go_enter Tryz.func62, Tryz.ntmps62
  go_wp2
  all_goals
   generalize hW : World.alloc _ _ = W
   obtain ⟨h0, h1, h2, hb⟩ := zjp w hW
   refine bodyPost_ret (results_cell_row rfl _ _ _ 83 _ (0, 0) _ rfl h1 Tryz.underlying83 rfl (by kernel_rfl)) rfl ?_
   exact ⟨by first | rfl | simp_all, hb⟩
 | true =>
  go_enter Tryz.func62, Tryz.ntmps62
  go_wp2
  all_goals
   generalize hW : World.alloc _ _ = W
   obtain ⟨h0, h1, h2, hb⟩ := zjp w hW
   have k1 := Aside0.mk (zap h1)
   have k2 := Aside0.mk (zap h2)
   have kb := Aside0.mk (zab hb)
   clear hW
   refine zbI (n := 8) (S := fun W' => W'.cell? ⟨w.heap.size, 3, none⟩ = some (.int .i64 f3) ∧ W'.cell? ⟨w.heap.size, 4, none⟩ = some (.int .i64 f4)) (ds := []) #[false, false, false, false, false, false, false, false] (by kernel_rfl) rfl rfl ⟨(zad (zap h0) 3).trans rfl, (zad (zap h0) 4).trans rfl⟩ (fun hHeld => ?_)
   clear h0 h1 h2 hb
   generalize W.drew = W2 at *
   refine zau (i := 0) (N := some 28) (v := ?_) (a' := ?_) #[true, false, false, false, false, false, false, false] rfl rfl (by kernel_rfl) (fun _ _ _ h => h) (Or.inl ⟨by rfl, ?_⟩) ?_ ?_
   rotate_left
   ·intro w'; go_simp; with_reducible rfl
   rotate_left
   ·simp only [Act.put, List.setIfInBounds_toArray, List.set_cons_zero, List.set_cons_succ, zaj, zak]; rfl
   refine take_ (i := 1) (N := some 29) (v := ?_) (a' := ?_) #[true, true, false, false, false, false, false, false] rfl rfl (by kernel_rfl) (fun _ _ _ h => h) (Or.inl ⟨by rfl, ?_⟩) hHeld ?_ ?_
   rotate_left
   ·rintro w' ⟨s3, s4⟩; go_simp; with_reducible rfl
   rotate_left
   ·simp only [Act.put, List.setIfInBounds_toArray, List.set_cons_zero, List.set_cons_succ, zaj, zak]; rfl
   refine zau (i := 2) (N := some 30) (v := ?_) (a' := ?_) #[true, true, true, false, false, false, false, false] rfl rfl (by kernel_rfl) (fun _ _ _ h => h) (Or.inl ⟨by rfl, ?_⟩) ?_ ?_
   rotate_left
   ·intro w'; go_simp; with_reducible rfl
   rotate_left
   ·simp only [Act.put, List.setIfInBounds_toArray, List.set_cons_zero, List.set_cons_succ, zaj, zak]; rfl
   refine take_ (i := 3) (N := some 31) (v := ?_) (a' := ?_) #[true, true, true, true, false, false, false, false] rfl rfl (by kernel_rfl) (fun _ _ _ h => h) (Or.inl ⟨by rfl, ?_⟩) hHeld ?_ ?_
   rotate_left
   ·rintro w' ⟨s3, s4⟩; go_simp; with_reducible rfl
   rotate_left
   ·simp only [Act.put, List.setIfInBounds_toArray, List.set_cons_zero, List.set_cons_succ, zaj, zak]; rfl
   refine zau (i := 4) (N := some 32) (v := ?_) (a' := ?_) #[true, true, true, true, true, false, false, false] rfl rfl (by kernel_rfl) (fun _ _ _ h => h) (Or.inl ⟨by rfl, ?_⟩) ?_ ?_
   rotate_left
   ·intro w'; go_simp; with_reducible rfl
   rotate_left
   ·simp only [Act.put, List.setIfInBounds_toArray, List.set_cons_zero, List.set_cons_succ, zaj, zak]; rfl
   refine one_ (i := 5) (N := none) #[true, true, true, true, true, true, false, false] rfl rfl (by kernel_rfl) (by decide) (fun K hK => ?_)
   have y1 := zaT k2.out
   obtain ⟨_, _, _, hx, hx4, _, _, _, hxf, hxf4⟩ := y1
   refine zhW (w1 := ?_) (by rfl) rfl ?_ ?_
   rotate_left
   ·go_simp
    rfl
   have hne : w.heap.size ≠ w.heap.size + 1 + 1 := by omega
   have hne1 : w.heap.size + 1 ≠ w.heap.size + 1 + 1 := by omega
   refine hK.out _ _ ⟨(zdz (p := ⟨w.heap.size + 1 + 1, 3, none⟩) hne _).trans hHeld.1, (zdz (p := ⟨w.heap.size + 1 + 1, 3, none⟩) hne _).trans hHeld.2⟩ (fun hHeld2 => ?_)
   clear hK K
   refine zau (i := 6) (N := some 33) (v := ?_) (a' := ?_) #[true, true, true, true, true, true, true, false] rfl rfl (by kernel_rfl) (fun _ _ _ h => h) (Or.inl ⟨by rfl, ?_⟩) ?_ ?_
   rotate_left
   ·intro w'; go_simp; with_reducible rfl
   rotate_left
   ·simp only [Act.put, List.setIfInBounds_toArray, List.set_cons_zero, List.set_cons_succ, zaj, zak]; rfl
   refine one_ (i := 7) (N := none) #[true, true, true, true, true, true, true, true] rfl rfl (by kernel_rfl) (by decide) (fun K hK => ?_)
   refine zhW (w1 := ?_) (by rfl) rfl ?_ ?_
   rotate_left
   ·go_simp
    rfl
   refine hK.out _ _ ⟨(zdz (p := ⟨w.heap.size + 1 + 1, 4, none⟩) hne _).trans hHeld2.1, (zdz (p := ⟨w.heap.size + 1 + 1, 4, none⟩) hne _).trans hHeld2.2⟩ (fun hHeld3 => ?_)
   clear hK K
   refine zc8 (by kernel_rfl) ?_
   have b1 := zas (zas k2.out 3 (.int .i64 f3) rfl) 4 (.int .i64 f4) rfl
   have b2 := zbB (zbB k1.out (p := ⟨w.heap.size + 1 + 1, 3, none⟩) hne1 (.int .i64 f3)) (p := ⟨w.heap.size + 1 + 1, 4, none⟩) hne1 (.int .i64 f4)
   have b3 := zag (zag kb.out (g := w.heap.size + 1 + 1) (j := 3) (v := .int .i64 f3) (by omega)) (g := w.heap.size + 1 + 1) (j := 4) (v := .int .i64 f4) (by omega)
   clear hHeld hHeld2 hHeld3 hx hx4 hxf hxf4 k1 k2 kb
   generalize (W2.setCell ⟨w.heap.size + 1 + 1, 3, none⟩ (.int .i64 f3)).setCell ⟨w.heap.size + 1 + 1, 4, none⟩ (.int .i64 f4) = W4 at *
   obtain ⟨z0, z1, z2, z3, z4, _⟩ := zaT b1
   obtain ⟨t0, t1, t2, t3, t4, q0, q1, q2, q3, q4⟩ := zaT b2
   have HF := Aside0.mk (fun a' b' c' d' e' => five b2 a' b' c' d' e')
   have HG := Aside0.mk (fun a' b' c' d' e' => zag (zag (zag (zag (zag b3 (g := w.heap.size + 1) (j := 0) (v := a') (by omega)) (g := w.heap.size + 1) (j := 1) (v := b') (by omega)) (g := w.heap.size + 1) (j := 2) (v := c') (by omega)) (g := w.heap.size + 1) (j := 3) (v := d') (by omega)) (g := w.heap.size + 1) (j := 4) (v := e') (by omega))
   clear b1 b2 b3
   go_wp2
   all_goals refine bodyPost_ret (results_cell_row rfl _ _ _ 83 _ (0, 0) _ rfl (HF.out _ _ _ _ _) Tryz.underlying83 rfl (by kernel_rfl)) rfl ?_
   all_goals exact ⟨by first | rfl | simp_all, HG.out _ _ _ _ _⟩
set_option maxHeartbeats 4000000 in
set_option maxRecDepth 100000 in
theorem zfO (A0 : Option Addr) (c0 : Nat) (l : List S109) (w : World) (hr0 : Kd.C k109 w A0 l.length l) (hc0 : l.length ≤ c0) (hs : l.length ≤ 2000000) :
  Calls Tryz.prog 61 #[.slice A0 l.length c0, .func (.func 62) #[] #[]] w fun e w' => ∃ v0_ : Value, e = .returned (v0_) ∧ k78.R 83 w' w.heap.size (fun _ => True) v0_ (l.map madeC) ∧ Below w.heap.size w w' := by
 have HR := Aside0.mk hr0
 have HB0 := Aside0.mk (Below.refl w.heap.size w)
 clear hr0
 obtain ⟨i0, hi0, hz0, hz1, hz2⟩ := info_parts (P := Tryz.prog) (e := 83) (z := .agg #[(.string ⟨#[]⟩), (.int .u8 0), (.bool false), (.int .i64 0), (.int .i64 0)]) (size := 5) (bytes := 40) (by kernel_rfl)
 obtain ⟨W1, hmk0, hown0, hgr0⟩ := run_make_own w w.heap.size 67 83 i0 _ 5 Tryz.underlying67 hi0 hz0 hz1 .i64 .i64 l.length (by rw [hz2]; omega) (by unfold maxLen; omega) (Nat.le_refl _)
 have HB1 : Aside0 (Below w.heap.size w W1) := ⟨HB0.out.grown hgr0 (Nat.le_refl _) (fun j hj => by cases hj)⟩
 have HO1 : Aside0 (k78.R 83 W1 w.heap.size (fun _ => True) (.slice (some ⟨w.heap.size, 0, none⟩) 0 l.length) []) := ⟨⟨fun _ _ => trivial, [], hown0, Reps.none _ _⟩⟩
 clear hown0 hgr0 hi0 hz0 hz1 hz2 HB0
 go_enter Tryz.func61, Tryz.ntmps61
 go_wp2
 go_loopg [5, 13] l.length (fun gk v5 v13 wx => ∃ (i : Nat), i + gk = l.length ∧ v13 = .int .i64 i ∧ Aside0 (k78.R 83 wx w.heap.size (fun _ => True) v5 ((l.take i).map madeC)) ∧ Aside0 (Below w.heap.size w wx))
 case atStart => exact ⟨0, by omega, rfl, by simpa using HO1, HB1⟩
 case round =>
  clear HO1 HB1
  obtain ⟨i, hi, rfl, HO, HB⟩ := hrel
  cases gk with
  | zero =>
   have e : l.take i = l := List.take_of_length_le (by omega)
   have hii : ¬ (i : Int) < (l.length : Int) := by omega
   rw [e] at HO
   go_wp2
   go_ret
   exact ⟨_, rfl, HO.out, HB.out⟩
  | succ gk =>
   have hlt : i < l.length := by omega
   have hii : (i : Int) < (l.length : Int) := by omega
   have hi0 : (0 : Int) ≤ (i : Int) := by omega
   have hrd : za0 l (i : Int) = l[i] := by unfold za0; simp [List.getD, hlt]
   obtain ⟨ad, hA, x0, x1, x2, x3, x4, x5⟩ := zd3 HR.out (i : Int) hi0 hii
   cases hA
   rw [hrd] at x0 x1 x2 x3 x4 x5
   rw [Int.toNat_natCast] at x0 x1 x2 x3 x4 x5
   replace x0 := (HB.out.cell (World.block_lt_of_cell? w _ x0)).trans x0
   replace x1 := (HB.out.cell (World.block_lt_of_cell? w _ x1)).trans x1
   replace x2 := (HB.out.cell (World.block_lt_of_cell? w _ x2)).trans x2
   replace x3 := (HB.out.cell (World.block_lt_of_cell? w _ x3)).trans x3
   replace x4 := (HB.out.cell (World.block_lt_of_cell? w _ x4)).trans x4
   replace x5 := (HB.out.cell (World.block_lt_of_cell? w _ x5)).trans x5
   have HT : Aside0 ((l.take (i + 1)).map madeC = (l.take i).map madeC ++ [madeC l[i]]) := ⟨by rw [zay hlt, List.map_append]; rfl⟩
   have hlen2 : ((l.take i).map madeC).length ≤ 2000000 := by rw [List.length_map, List.length_take]; omega
   clear hrd
   generalize l[i] = x at *
   generalize (l.take i).map madeC = pre at *
   have HN : Aside0 (∀ W, Calls Tryz.prog 62 #[.agg #[.string x.f0, .int .u8 x.f1, .bool x.f2, .int .i64 x.f3, .int .i64 x.f4, .bool x.f5]] W fun e w' => e = .returned (.agg #[.string (madeC x).f0, .int .u8 (madeC x).f1, .bool (madeC x).f2, .int .i64 (madeC x).f3, .int .i64 (madeC x).f4]) ∧ Below W.heap.size W w') := ⟨ziV x⟩
   generalize madeC x = y at *
   have HBA := Aside0.mk (fun o => zac HB.out o)
   have HBO := Aside0.mk (fun o => (Below.refl wr.heap.size wr).alloc (Nat.le_refl _) o)
   go_wp2_with (first
    | (go_at_call 62; refine (HN.out _).mono ?_; rintro e w1 ⟨rfl, hb1⟩; have HO2 := Aside0.mk (Kd.R_below HO.out (below_step (HBO.out _) hb1)); have HB2 := Aside0.mk (below_step (HBA.out _) hb1); clear hb1)
    | ((with_reducible refine zam (b := .append) (xs := #[.tmp 17, .tmp 21]) rfl ?_); at_builtin; refine Kd.R_append k78 (w0 := w) w.heap.size rfl (.tmp 17) (.tmp 21) 67 83 (.agg #[(.string ⟨#[]⟩), (.int .u8 0), (.bool false), (.int .i64 0), (.int .i64 0)]) 40 rfl Tryz.underlying67 zhg rfl (by decide) (by omega) u5 pre y [.string y.f0, .int .u8 y.f1, .bool y.f2, .int .i64 y.f3, .int .i64 y.f4] (fun _ => True) (fun _ => False) rfl rfl (zjg _ _ _ y) (fun _ h => h.elim) (fun _ _ => trivial) HO2.out HB2.out HB2.out.size (by omega) ?_; intro v1 w2 hv1 hb2 _ _))
   go_roundg gk
   case measure => omega
   case rel => exact ⟨i + 1, by omega, by first | rfl | (simp; done) | (simp; unfold wrap64; omega), ⟨by rw [HT.out]; exact hv1⟩, ⟨hb2⟩⟩
set_option maxRecDepth 100000 in
theorem zfL (x : S109) (w : World) : Calls Tryz.prog 66 #[.agg #[.string x.f0, .int .u8 x.f1, .bool x.f2, .int .i64 x.f3, .int .i64 x.f4, .bool x.f5]] w fun e w' => e = .returned (.string x.f0) ∧ Below w.heap.size w w' := by
 go_enter Tryz.func66, Tryz.ntmps66
 go_wp2
 go_ret
 exact ⟨rfl, (Below.refl _ _).alloc (Nat.le_refl _) _⟩
set_option maxHeartbeats 4000000 in
set_option maxRecDepth 100000 in
theorem ze8 (A0 : Option Addr) (c0 : Nat) (l : List S109) (w : World) (hr0 : Kd.C k109 w A0 l.length l) (hc0 : l.length ≤ c0) (hs : l.length ≤ 2000000) :
  Calls Tryz.prog 65 #[.slice A0 l.length c0, .func (.func 66) #[] #[]] w fun e w' => ∃ v0_ : Value, e = .returned (v0_) ∧ Kd.string.R 9 w' w.heap.size (fun _ => True) v0_ (l.map fun x => x.f0) ∧ Below w.heap.size w w' := by
 have HR := Aside0.mk hr0
 have HB0 := Aside0.mk (Below.refl w.heap.size w)
 clear hr0
 obtain ⟨i0, hi0, hz0, hz1, hz2⟩ := info_parts (P := Tryz.prog) (e := 9) (z := .string ⟨#[]⟩) (size := 1) (bytes := 16) (by kernel_rfl)
 obtain ⟨W1, hmk0, hown0, hgr0⟩ := run_make_own w w.heap.size 103 9 i0 _ 1 Tryz.underlying103 hi0 hz0 hz1 .i64 .i64 l.length (by rw [hz2]; omega) (by unfold maxLen; omega) (Nat.le_refl _)
 have HB1 : Aside0 (Below w.heap.size w W1) := ⟨HB0.out.grown hgr0 (Nat.le_refl _) (fun j hj => by cases hj)⟩
 have HO1 : Aside0 (Kd.string.R 9 W1 w.heap.size (fun _ => True) (.slice (some ⟨w.heap.size, 0, none⟩) 0 l.length) []) := ⟨⟨fun _ _ => trivial, [], hown0, Reps.none _ _⟩⟩
 clear hown0 hgr0 hi0 hz0 hz1 hz2 HB0
 go_enter Tryz.func65, Tryz.ntmps65
 go_wp2
 go_loopg [5, 13] l.length (fun gk v5 v13 wx => ∃ (i : Nat), i + gk = l.length ∧ v13 = .int .i64 i ∧ Aside0 (Kd.string.R 9 wx w.heap.size (fun _ => True) v5 ((l.take i).map fun x => x.f0)) ∧ Aside0 (Below w.heap.size w wx))
 case atStart => exact ⟨0, by omega, rfl, by simpa using HO1, HB1⟩
 case round =>
  clear HO1 HB1
  obtain ⟨i, hi, rfl, HO, HB⟩ := hrel
  cases gk with
  | zero =>
   have e : l.take i = l := List.take_of_length_le (by omega)
   have hii : ¬ (i : Int) < (l.length : Int) := by omega
   rw [e] at HO
   go_wp2
   go_ret
   exact ⟨_, rfl, HO.out, HB.out⟩
  | succ gk =>
   have hlt : i < l.length := by omega
   have hii : (i : Int) < (l.length : Int) := by omega
   have hi0 : (0 : Int) ≤ (i : Int) := by omega
   have hrd : za0 l (i : Int) = l[i] := by unfold za0; simp [List.getD, hlt]
   obtain ⟨ad, hA, x0, x1, x2, x3, x4, x5⟩ := zd3 HR.out (i : Int) hi0 hii
   cases hA
   rw [hrd] at x0 x1 x2 x3 x4 x5
   rw [Int.toNat_natCast] at x0 x1 x2 x3 x4 x5
   replace x0 := (HB.out.cell (World.block_lt_of_cell? w _ x0)).trans x0
   replace x1 := (HB.out.cell (World.block_lt_of_cell? w _ x1)).trans x1
   replace x2 := (HB.out.cell (World.block_lt_of_cell? w _ x2)).trans x2
   replace x3 := (HB.out.cell (World.block_lt_of_cell? w _ x3)).trans x3
   replace x4 := (HB.out.cell (World.block_lt_of_cell? w _ x4)).trans x4
   replace x5 := (HB.out.cell (World.block_lt_of_cell? w _ x5)).trans x5
   have HT : Aside0 (((l.take (i + 1)).map fun x => x.f0) = ((l.take i).map fun x => x.f0) ++ [l[i].f0]) := ⟨by rw [zay hlt, List.map_append]; rfl⟩
   have hlen2 : ((l.take i).map fun x => x.f0).length ≤ 2000000 := by rw [List.length_map, List.length_take]; omega
   clear hrd
   generalize l[i] = x at *
   generalize ((l.take i).map fun x => x.f0) = pre at *
   have HN := Aside0.mk (zfL x)
   have HBA := Aside0.mk (fun o => zac HB.out o)
   have HBO := Aside0.mk (fun o => (Below.refl wr.heap.size wr).alloc (Nat.le_refl _) o)
   go_wp2_with (first
    | (go_at_call 66; refine (HN.out _).mono ?_; rintro e w1 ⟨rfl, hb1⟩; have HO2 := Aside0.mk (Kd.R_below HO.out (below_step (HBO.out _) hb1)); have HB2 := Aside0.mk (below_step (HBA.out _) hb1); clear hb1)
    | ((with_reducible refine zam (b := .append) (xs := #[.tmp 17, .tmp 21]) rfl ?_); at_builtin; refine Kd.R_append Kd.string (w0 := w) w.heap.size rfl (.tmp 17) (.tmp 21) 103 9 (.string ⟨#[]⟩) 16 rfl Tryz.underlying103 zkN rfl (by decide) (by omega) u5 pre x.f0 [.string x.f0] (fun _ => True) (fun _ => False) rfl rfl rfl (fun _ h => h.elim) (fun _ _ => trivial) HO2.out HB2.out HB2.out.size (by omega) ?_; intro v1 w2 hv1 hb2 _ _))
   go_roundg gk
   case measure => omega
   case rel => exact ⟨i + 1, by omega, by first | rfl | (simp; done) | (simp; unfold wrap64; omega), ⟨by rw [HT.out]; exact hv1⟩, ⟨hb2⟩⟩
theorem zc1 (a : World) (r : Option Nat) : a.grownBy a r := ⟨rfl, rfl, rfl, Nat.le_refl _, fun _ _ _ => rfl⟩
theorem zae {a b c : World} {r : Option Nat} (h : a.grownBy b r) (k : b.grownBy c r) : a.grownBy c r :=
 ⟨k.os.trans h.os, k.tape.trans h.tape, k.output.trans h.output, Nat.le_trans h.size k.size, fun i hi hr => (k.block i (Nat.lt_of_lt_of_le hi h.size) hr).trans (h.block i hi hr)⟩
theorem zao {a b : World} (h : Below a.heap.size a b) (r : Option Nat) : a.grownBy b r := ⟨h.os, h.tape, h.output, h.size, fun k hk _ => h.block k hk⟩
theorem zaz (a : World) (g j : Nat) (u : Value) : a.grownBy (a.setCell ⟨g, j, none⟩ u) (some g) :=
 ⟨rfl, rfl, rfl, by simp [World.setCell], fun k hk hr => Below.heap_setCell a ⟨g, j, none⟩ u k (fun h => hr (by rw [h]))⟩
theorem zco (a : World) (r : Option Nat) : a.grownBy a.drew r := zao (zab (Below.refl _ _)) r
theorem zav {a b : World} {g B : Nat} (h : a.grownBy b (some g)) (h1 : B ≤ a.heap.size) (h2 : B ≤ g) : Below B a b :=
 (Below.refl B a).grown h h1 (fun k hk => by injection hk with hk; omega)
def askE (err : Int) (wrong : Bool) (e : Int) : Int := if err = 0 then if wrong = true then e else err else err
theorem zaP (g : Nat) (b n c k r x : Value) (err : Int) (wrong : Bool) (e : Int) (w : World) (hb : w.heap[g]? = some (.cells #[b, n, c, k, r, x, .int .i64 err] 118 (0, 0))) :
  Calls Tryz.prog 63 #[.pointer (some ⟨g, 0, none⟩), .bool wrong, .int .i64 e] w fun e_ w' => e_ = .returned (.bool (askE err wrong e == 0)) ∧ w'.heap[g]? = some (.cells #[b, n, c, k, r, x, .int .i64 (askE err wrong e)] 118 (0, 0)) ∧ w.grownBy w' (some g) := by
 have hx : w.cell? ⟨g, 6, none⟩ = some (.int .i64 err) := (zad hb 6).trans rfl
 have hxf := zaf hb 6
 have HB := Aside0.mk hb
 unfold askE
 clear hb
 by_cases q : err = 0
 ·subst q
  rw [if_pos rfl]
  cases wrong with
  | true =>
   rw [if_pos rfl]
   go_enter Tryz.func63, Tryz.ntmps63
   go_wp2
   go_ret
   exact ⟨rfl, zas HB.out 6 _ rfl, zaz _ _ _ _⟩
  | false =>
   rw [if_neg (by decide)]
   go_enter Tryz.func63, Tryz.ntmps63
   go_wp2
   go_ret
   exact ⟨rfl, HB.out, zc1 _ _⟩
 ·rw [if_neg q]
  have d1 : (err == 0) = false := beq_eq_false_iff_ne.mpr q
  go_enter Tryz.func63, Tryz.ntmps63
  go_wp2
  go_ret
  exact ⟨by rw [d1]; rfl, HB.out, zc1 _ _⟩
def idxI (c : Int) : Nat → List Int → Int
 | _, [] => -1
 | i, x :: r => if x = c then (i : Int) else idxI c (i + 1) r
theorem zcV (c : Int) : ∀ (l : List Int) (i : Nat), (c ∈ l → (i : Int) ≤ idxI c i l ∧ idxI c i l < (i + l.length : Nat)) ∧ (c ∉ l → idxI c i l = -1)
 | [], i => ⟨fun h => (by cases h), fun _ => rfl⟩
 | x :: r, i => by
  obtain ⟨h1, h2⟩ := zcV c r (i + 1)
  rw [idxI]
  by_cases q : x = c
  ·rw [if_pos q]
   exact ⟨fun _ => ⟨Int.le_refl _, by simp; omega⟩, fun h => absurd (by rw [q]; exact List.mem_cons_self) h⟩
  ·rw [if_neg q]
   refine ⟨fun h => ?_, fun h => h2 (fun hm => h (List.mem_cons_of_mem _ hm))⟩
   rcases List.mem_cons.1 h with e | e
   ·exact absurd e.symm q
   ·have := h1 e
    simp at this ⊢
    omega
set_option maxRecDepth 100000 in
theorem zey (A : Option Addr) (c : Nat) (l : List Int) (z : Int) (w : World) (hC : Kd.C (Kd.int .i64) w A l.length l) (hc : l.length ≤ c) :
  Calls Tryz.prog 123 #[.slice A l.length c, .int .i64 z] w fun e w' => e = .returned (.int .i64 (idxI z 0 l)) ∧ Below w.heap.size w w' := by
 have HC := Aside0.mk hC
 have HB0 := Aside0.mk (Below.refl w.heap.size w)
 clear hC
 go_enter Tryz.func123, Tryz.ntmps123
 go_wp2
 go_loopg [8] l.length (fun gk v8 wx => ∃ (i : Nat), i + gk = l.length ∧ v8 = .int .i64 i ∧ Aside0 (Below w.heap.size w wx) ∧ Aside0 (idxI z 0 l = idxI z i (l.drop i)))
 case atStart => exact ⟨0, by omega, rfl, HB0, ⟨by simp⟩⟩
 case round =>
  clear HB0
  obtain ⟨i, hi, rfl, HW, HP⟩ := hrel
  cases gk with
  | zero =>
   have e : l.drop i = [] := List.drop_eq_nil_of_le (by omega)
   have hp := HP.out
   rw [e] at hp
   have hii : ¬ (i : Int) < (l.length : Int) := by omega
   go_wp2
   go_ret
   exact ⟨by first | rfl | (rw [hp]; rfl), HW.out⟩
  | succ gk =>
   have hlt : i < l.length := by omega
   have hii : (i : Int) < (l.length : Int) := by omega
   have hi0 : (0 : Int) ≤ (i : Int) := by omega
   have hdr : l.drop i = l[i] :: l.drop (i + 1) := List.drop_eq_getElem_cons hlt
   obtain ⟨ad, hA, hx⟩ := Kd.at_int HC.out (i : Int) hi0 hii
   have hrd : rd l (i : Int) = l[i] := by unfold rd; simp [List.getD, hlt]
   cases hA
   rw [hrd, Int.toNat_natCast] at hx
   have hy := (HW.out.cell (World.block_lt_of_cell? w _ hx)).trans hx
   have hp := HP.out
   rw [hdr, idxI] at hp
   generalize l[i] = x at *
   clear hx
   by_cases hh : x = z
   ·rw [if_pos hh] at hp
    have hb : (z == x) = true := beq_iff_eq.mpr hh.symm
    clear hh
    go_wp2
    go_ret
    exact ⟨by first | rfl | (rw [hp]; rfl), HW.out⟩
   ·rw [if_neg hh] at hp
    have hb : (z == x) = false := beq_eq_false_iff_ne.mpr (Ne.symm hh)
    clear hh
    go_wp2
    go_roundg gk
    case measure => omega
    case rel => exact ⟨i + 1, by omega, by first | rfl | (simp; done) | (have := HC.out.2.1; simp; unfold wrap64; omega), HW, ⟨hp⟩⟩
theorem zeW (A : Option Addr) (c : Nat) (l : List Int) (z : Int) (w : World) (hC : Kd.C (Kd.int .i64) w A l.length l) (hc : l.length ≤ c) :
  Calls Tryz.prog 154 #[.slice A l.length c, .int .i64 z] w fun e w' => e = .returned (.bool (decide (z ∈ l))) ∧ Below w.heap.size w w' := by
 have HI := Aside0.mk (zey A c l z w hC hc)
 have hr := zcV z l 0
 clear hC
 go_enter Tryz.func154, Tryz.ntmps154
 cases hq : decide (z ∈ l) with
 | true =>
  have d1 : decide (0 ≤ idxI z 0 l) = true := decide_eq_true (by have := hr.1 (by simpa using hq); omega)
  clear hq hr
  go_wp2_with (go_at_call 123; refine HI.out.mono ?_; rintro e w1 ⟨rfl, hb1⟩)
  go_ret
  exact ⟨rfl, hb1⟩
 | false =>
  have d1 : decide (0 ≤ idxI z 0 l) = false := decide_eq_false (by have := hr.2 (by simpa using hq); omega)
  clear hq hr
  go_wp2_with (go_at_call 123; refine HI.out.mono ?_; rintro e w1 ⟨rfl, hb1⟩)
  go_ret
  exact ⟨rfl, hb1⟩
def colsN (cols : List S78) (l : List ByteArray) : List Int := l.map fun s => colP s 0 cols
set_option maxRecDepth 100000 in
theorem zgj (f0 : ByteArray) (A1 : Option Addr) (c1 : Nat) (cols : List S78) (A2 : Option Addr) (n2 c2 : Nat) (A3 : Option Addr) (n3 c3 : Nat) (A4 : Option Addr) (n4 c4 : Nat) (a : Nat) (s : ByteArray) (w : World) (hC : Kd.C k78 w A1 cols.length cols) (hc : cols.length ≤ c1)
  (hT : w.heap[a]? = some (.cells #[.string f0, .slice A1 cols.length c1, .slice A2 n2 c2, .slice A3 n3 c3, .slice A4 n4 c4] 72 (0, 0))) :
  Calls Tryz.prog 153 #[.string s, .pointer (some ⟨a, 0, none⟩)] w fun e w' => e = .returned (.int .i64 (colP s 0 cols)) ∧ Below w.heap.size w w' := by
 have HN := Aside0.mk (zgl f0 A1 c1 cols A2 n2 c2 A3 n3 c3 A4 n4 c4 s w hC hc)
 obtain ⟨z0, z1, z2, z3, z4, _⟩ := zaT hT
 clear hC hT
 go_enter Tryz.func153, Tryz.ntmps153
 go_wp2_with (go_at_call 91; refine HN.out.mono ?_; rintro e w1 ⟨rfl, hb1⟩)
 go_ret
 exact ⟨rfl, hb1⟩
set_option maxHeartbeats 4000000 in
set_option maxRecDepth 100000 in
theorem zgW (f0 : ByteArray) (A1 : Option Addr) (c1 : Nat) (cols : List S78) (A2 : Option Addr) (n2 c2 : Nat) (A3 : Option Addr) (n3 c3 : Nat) (A4 : Option Addr) (n4 c4 : Nat) (a : Nat) (A0 : Option Addr) (c0 : Nat) (l : List ByteArray) (w : World) (hC : Kd.C k78 w A1 cols.length cols) (hc : cols.length ≤ c1)
  (hT : w.heap[a]? = some (.cells #[.string f0, .slice A1 cols.length c1, .slice A2 n2 c2, .slice A3 n3 c3, .slice A4 n4 c4] 72 (0, 0))) (hr0 : Kd.C Kd.string w A0 l.length l) (hc0 : l.length ≤ c0) (hs : l.length ≤ 2000000) :
  Calls Tryz.prog 152 #[.slice A0 l.length c0, .func (.func 153) #[] #[.pointer (some ⟨a, 0, none⟩)]] w fun e w' => ∃ v0_ : Value, e = .returned (v0_) ∧ (Kd.int .i64).R 3 w' w.heap.size (fun _ => True) v0_ (colsN cols l) ∧ Below w.heap.size w w' := by
 have HR := Aside0.mk hr0
 have HN : Aside0 (∀ s W, Below w.heap.size w W → Calls Tryz.prog 153 #[.string s, .pointer (some ⟨a, 0, none⟩)] W fun e w' => e = .returned (.int .i64 (colP s 0 cols)) ∧ Below W.heap.size W w') := ⟨fun s W hW => zgj f0 A1 c1 cols A2 n2 c2 A3 n3 c3 A4 n4 c4 a s W (Kd.C_below hC hW) hc ((hW.block a (zah hT)).trans hT)⟩
 have HB0 := Aside0.mk (Below.refl w.heap.size w)
 clear hr0 hC hT
 obtain ⟨i0, hi0, hz0, hz1, hz2⟩ := info_parts (P := Tryz.prog) (e := 3) (z := .int .i64 0) (size := 1) (bytes := 8) (by kernel_rfl)
 obtain ⟨W1, hmk0, hown0, hgr0⟩ := run_make_own w w.heap.size 70 3 i0 _ 1 Tryz.underlying70 hi0 hz0 hz1 .i64 .i64 l.length (by rw [hz2]; omega) (by unfold maxLen; omega) (Nat.le_refl _)
 have HB1 : Aside0 (Below w.heap.size w W1) := ⟨HB0.out.grown hgr0 (Nat.le_refl _) (fun j hj => by cases hj)⟩
 have HO1 : Aside0 ((Kd.int .i64).R 3 W1 w.heap.size (fun _ => True) (.slice (some ⟨w.heap.size, 0, none⟩) 0 l.length) []) := ⟨⟨fun _ _ => trivial, [], hown0, Reps.none _ _⟩⟩
 clear hown0 hgr0 hi0 hz0 hz1 hz2 HB0
 unfold colsN
 go_enter Tryz.func152, Tryz.ntmps152
 go_wp2
 go_loopg [5, 13] l.length (fun gk v5 v13 wx => ∃ (i : Nat), i + gk = l.length ∧ v13 = .int .i64 i ∧ Aside0 ((Kd.int .i64).R 3 wx w.heap.size (fun _ => True) v5 ((l.take i).map fun s => colP s 0 cols)) ∧ Aside0 (Below w.heap.size w wx))
 case atStart => exact ⟨0, by omega, rfl, by simpa using HO1, HB1⟩
 case round =>
  clear HO1 HB1
  obtain ⟨i, hi, rfl, HO, HB⟩ := hrel
  cases gk with
  | zero =>
   have e : l.take i = l := List.take_of_length_le (by omega)
   have hii : ¬ (i : Int) < (l.length : Int) := by omega
   rw [e] at HO
   go_wp2
   go_ret
   exact ⟨_, rfl, HO.out, HB.out⟩
  | succ gk =>
   have hlt : i < l.length := by omega
   have hii : (i : Int) < (l.length : Int) := by omega
   have hi0 : (0 : Int) ≤ (i : Int) := by omega
   have hrd : rdOf ByteArray.empty l (i : Int) = l[i] := by unfold rdOf; simp [List.getD, hlt]
   obtain ⟨ad, hA, x0⟩ := Kd.at_string HR.out (i : Int) hi0 hii
   cases hA
   rw [hrd, Int.toNat_natCast] at x0
   replace x0 := (HB.out.cell (World.block_lt_of_cell? w _ x0)).trans x0
   have HT : Aside0 (((l.take (i + 1)).map fun s => colP s 0 cols) = ((l.take i).map fun s => colP s 0 cols) ++ [colP l[i] 0 cols]) := ⟨by rw [zay hlt, List.map_append]; rfl⟩
   have hlen2 : ((l.take i).map fun s => colP s 0 cols).length ≤ 2000000 := by rw [List.length_map, List.length_take]; omega
   clear hrd
   generalize l[i] = x at *
   generalize ((l.take i).map fun s => colP s 0 cols) = pre at *
   have HN2 := Aside0.mk (HN.out x wr HB.out)
   generalize colP x 0 cols = y at *
   go_wp2_with (first
    | (go_at_call 153; refine HN2.out.mono ?_; rintro e w1 ⟨rfl, hb1⟩; have HO2 := Aside0.mk (Kd.R_below HO.out hb1); have HB2 := Aside0.mk (below_step HB.out hb1); clear hb1)
    | ((with_reducible refine zam (b := .append) (xs := #[.tmp 17, .tmp 21]) rfl ?_); at_builtin; refine Kd.R_append (Kd.int .i64) (w0 := w) w.heap.size rfl (.tmp 17) (.tmp 21) 70 3 (.int .i64 0) 8 rfl Tryz.underlying70 zeY rfl (by decide) (by omega) u5 pre y [.int .i64 y] (fun _ => True) (fun _ => False) rfl rfl rfl (fun _ h => h.elim) (fun _ _ => trivial) HO2.out HB2.out HB2.out.size (by omega) ?_; intro v1 w2 hv1 hb2 _ _))
   go_roundg gk
   case measure => omega
   case rel => exact ⟨i + 1, by omega, by first | rfl | (simp; done) | (simp; unfold wrap64; omega), ⟨by rw [HT.out]; exact hv1⟩, ⟨hb2⟩⟩
set_option maxHeartbeats 4000000 in
set_option maxRecDepth 100000 in
theorem zb7 (g : Nat) (b n c k r x : Value) (err : Int) (f0 : ByteArray) (A1 : Option Addr) (c1 : Nat) (cols : List S78) (A2 : Option Addr) (n2 c2 : Nat) (A3 : Option Addr) (n3 c3 : Nat) (A4 : Option Addr) (n4 c4 : Nat) (A0 : Option Addr) (c0 : Nat) (l : List ByteArray) (w : World) (hb : w.heap[g]? = some (.cells #[b, n, c, k, r, x, .int .i64 err] 118 (0, 0)))
  (hC : Kd.C k78 w A1 cols.length cols) (hc : cols.length ≤ c1) (hr0 : Kd.C Kd.string w A0 l.length l) (hc0 : l.length ≤ c0) (hs : l.length ≤ 2000000) :
  Calls Tryz.prog 115 #[.pointer (some ⟨g, 0, none⟩), .agg #[.string f0, .slice A1 cols.length c1, .slice A2 n2 c2, .slice A3 n3 c3, .slice A4 n4 c4], .slice A0 l.length c0] w
   fun e w' => ∃ (A : Option Addr) (cc : Nat), e = .returned (.slice A (colsN cols l).length cc) ∧ (Kd.int .i64).R 3 w' w.heap.size (fun _ => True) (.slice A (colsN cols l).length cc) (colsN cols l) ∧ w'.heap[g]? = some (.cells #[b, n, c, k, r, x, .int .i64 (askE err (decide (-1 ∈ colsN cols l)) 71)] 118 (0, 0)) ∧ w.grownBy w' (some g) := by
 have hb0 : Below w.heap.size w (w.alloc (Obj.cells #[.string f0, .slice A1 cols.length c1, .slice A2 n2 c2, .slice A3 n3 c3, .slice A4 n4 c4] 72)) := (Below.refl _ _).alloc (Nat.le_refl _) _
 have HM := Aside0.mk (zgW f0 A1 c1 cols A2 n2 c2 A3 n3 c3 A4 n4 c4 w.heap.size A0 c0 l (w.alloc (Obj.cells #[.string f0, .slice A1 cols.length c1, .slice A2 n2 c2, .slice A3 n3 c3, .slice A4 n4 c4] 72)) (Kd.C_below hC hb0) hc (Go.Deep.blk_alloc_new w _) (Kd.C_below hr0 hb0) hc0 hs)
 have HG := Aside0.mk hb
 have HB := Aside0.mk hb0
 clear hC hr0 hb hb0
 generalize colsN cols l = nums at *
 go_enter Tryz.func115, Tryz.ntmps115
 go_wp2_with (first
  | (go_at_call 152; refine HM.out.mono ?_; rintro e w1 ⟨v1, rfl, hv1, hb1⟩; obtain ⟨A5, c5, e5⟩ := Kd.R_slice hv1; subst e5; have HV1 := Aside0.mk (Kd.R_lower hv1 HB.out.size); have HB1 := Aside0.mk (below_step HB.out hb1); have HRD := Aside0.mk (Kd.R_reads' hv1); clear hv1 hb1)
  | (go_at_call 154; refine (zeW A5 c5 nums (-1) w1 HRD.out.2.2 HRD.out.2.1).mono ?_; rintro e w2 ⟨rfl, hb2⟩; have HB2 := Aside0.mk hb2; clear hb2)
  | (go_at_call 63; refine (zaP g b n c k r x err _ _ w2 ((HB2.out.block g (Nat.lt_of_lt_of_le (zah HG.out) HB1.out.size)).trans ((HB1.out.block g (zah HG.out)).trans HG.out))).mono ?_; rintro e w3 ⟨rfl, hg3, hk3⟩; have HG3 := Aside0.mk hg3; have HK3 := Aside0.mk hk3; clear hg3 hk3))
 go_ret
 refine ⟨_, _, rfl, ?_, HG3.out, zae (zao (below_step HB1.out HB2.out) _) HK3.out⟩
 exact Kd.R_mono (Kd.R_grown (Kd.R_bound (Kd.R_below HV1.out HB2.out)) HK3.out (fun k hk he => by injection he with he; have := zah HG.out; have := hk.2.1; omega)) (fun k hk => trivial)
end Go.Proofs.YthgfdnffnbclpaaGreatDoor.PAll
