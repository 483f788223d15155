import Derived.Test.YthgfdnffnbclpaaGreatDoorXI03
import Derived.RangeFuncNested
import Derived.RangeFuncBound
import Derived.RangeFuncCalls
import Derived.RangeFuncLeaves
import Derived.RangeFuncFrom
import Derived.RangeFuncBox
import Derived.Shelf.Abstract
import Derived.Shelf.RegionOpen
import Derived.OwnWalkIn
import Derived.TacticsInMore
import Derived.LoopNIn
import Derived.LoopIn
import Derived.Lib.ConvBytes
import Derived.Laws.IdiomStrings
import Derived.Test.YthgfdnffnbclpaaGreatDoorXI05
set_option linter.unusedVariables false
set_option linter.unusedSimpArgs false
namespace Go.Proofs.YthgfdnffnbclpaaGreatDoor.PAll
open Go.RowKit Go.Proofs.YthgfdnffnbclpaaGreatDoorW.PrintWords Go.Proofs.YthgfdnffnbclpaaGreatDoorW.PrintLast Go.Proofs.YthgfdnffnbclpaaGreatDoorW.PrintMore
attribute [local go_sem] max2_int min2_int max_two min_two max_three min_three max_four min_four   -- for this text's walks alone

attribute [local go_sem] kwB_size
/-! ### jointerref02_IsKeyword: function 18 -/
mutual
def jointerref02_IsKeyword.l0 : Nat → ByteArray → Int → Option (Bool)
  | 0, _, _ => none
  | k + 1, x0, x3 => if x3 < (x0.size : Int) then (if 0 ≤ x3 then (if (bt x0 x3) < 65 then (some false) else (if (bt x0 x3) > 90 then (some false) else (jointerref02_IsKeyword.l0 k x0 (wrap64 (x3 + 1))))) else (none)) else (jointerref02_IsKeyword.l1 k x0 0)
def jointerref02_IsKeyword.l1 : Nat → ByteArray → Int → Option (Bool)
  | 0, _, _ => none
  | k + 1, x0, x4 => if (wrap64 ((wrap64 (x4 + (x0.size : Int))) + 2)) ≤ 372 then (if 0 ≤ x4 then (if x4 ≤ (wrap64 ((wrap64 (x4 + (x0.size : Int))) + 2)) then (if 1 + x0.size ≤ 9223372036854775807 then (if ((⟨#[32]⟩ : ByteArray) ++ x0).size + 1 ≤ 9223372036854775807 then (if (kwB.extract (x4 : Int).toNat ((wrap64 ((wrap64 (x4 + (x0.size : Int))) + 2)) : Int).toNat).toList = (((⟨#[32]⟩ : ByteArray) ++ x0) ++ (⟨#[32]⟩ : ByteArray)).toList then (some true) else (jointerref02_IsKeyword.l1 k x0 (wrap64 (x4 + 1)))) else (none)) else (none)) else (none)) else (none)) else (some false)
end
def jointerref02_IsKeyword.f (k : Nat) (a0 : ByteArray) : Option (Bool) := if a0.toList = ([] : List UInt8) then (some false) else (jointerref02_IsKeyword.l0 k a0 0)
theorem jointerref02_IsKeyword.mono_l : ∀ k, (∀ y0 y1, LeO (jointerref02_IsKeyword.l0 k y0 y1) (jointerref02_IsKeyword.l0 (k + 1) y0 y1)) ∧ (∀ y0 y1, LeO (jointerref02_IsKeyword.l1 k y0 y1) (jointerref02_IsKeyword.l1 (k + 1) y0 y1))
  | 0 => ⟨fun _ _ r h => by simp [jointerref02_IsKeyword.l0] at h, fun _ _ r h => by simp [jointerref02_IsKeyword.l1] at h⟩
  | k + 1 => by
    obtain ⟨ih0, ih1⟩ := jointerref02_IsKeyword.mono_l k
    refine ⟨?_, ?_⟩
    · intro y0 y1
      unfold jointerref02_IsKeyword.l0
      repeat' first
      | (with_reducible exact ih0 _ _)
      | (with_reducible exact ih1 _ _)
      | (with_reducible exact LeO.refl _)
      | (with_reducible exact LeO.none _)
      | (with_reducible refine LeO.ite ?_ ?_)
      | (with_reducible refine LeO.bind ?_ (fun _ => ?_))
      | exact ih0 _ _
      | exact ih1 _ _
      | exact LeO.none _
      | refine LeO.ite ?_ ?_
      | refine LeO.bind ?_ (fun _ => ?_)
    · intro y0 y1
      unfold jointerref02_IsKeyword.l1
      repeat' first
      | (with_reducible exact ih0 _ _)
      | (with_reducible exact ih1 _ _)
      | (with_reducible exact LeO.refl _)
      | (with_reducible exact LeO.none _)
      | (with_reducible refine LeO.ite ?_ ?_)
      | (with_reducible refine LeO.bind ?_ (fun _ => ?_))
      | exact ih0 _ _
      | exact ih1 _ _
      | exact LeO.none _
      | refine LeO.ite ?_ ?_
      | refine LeO.bind ?_ (fun _ => ?_)
theorem jointerref02_IsKeyword.mono : ∀ a0 k, LeO (jointerref02_IsKeyword.f k a0) (jointerref02_IsKeyword.f (k + 1) a0) := by
  intro a0 k
  obtain ⟨ih0, ih1⟩ := jointerref02_IsKeyword.mono_l k
  unfold jointerref02_IsKeyword.f
  repeat' first
      | (with_reducible exact ih0 _ _)
      | (with_reducible exact ih1 _ _)
      | (with_reducible exact LeO.refl _)
      | (with_reducible exact LeO.none _)
      | (with_reducible refine LeO.ite ?_ ?_)
      | (with_reducible refine LeO.bind ?_ (fun _ => ?_))
      | exact ih0 _ _
      | exact ih1 _ _
      | exact LeO.none _
      | refine LeO.ite ?_ ?_
      | refine LeO.bind ?_ (fun _ => ?_)
set_option maxHeartbeats 8000000 in
set_option maxRecDepth 100000 in
theorem jointerref02_IsKeyword.calls (k : Nat) (a0 : ByteArray) (r : Bool) (w : World) (h : jointerref02_IsKeyword.f k a0 = some r) :
    Calls Tryz.prog 98 #[.string a0] w fun e w' => e = .returned (.bool r) ∧ Drawn0 w w' := by
  have H : (if a0.toList = ([] : List UInt8) then (some false) else (jointerref02_IsKeyword.l0 k a0 0)) = some r := h
  clear h
  by_cases c2 : a0.toList = ([] : List UInt8)
  · rw [if_pos c2] at H
    have c2b0 : (a0.toList == ([] : List UInt8)) = true := beq_iff_eq.mpr c2
    have c2b1 : (a0.toList != ([] : List UInt8)) = false := bne_eq_false_iff_eq.mpr c2
    clear c2
    obtain rfl := Option.some.inj H
    go_enter Tryz.func98, Tryz.ntmps98
    simp only [kwB_eq]
    go_wp2
    go_ret
    exact ⟨by first | rfl | (simp; done) | (simp [*]; done), by repeat (first | exact Drawn0.refl _ | apply Drawn0.step)⟩
  · rw [if_neg c2] at H
    have c2b0 : (a0.toList == ([] : List UInt8)) = false := beq_eq_false_iff_ne.mpr c2
    have c2b1 : (a0.toList != ([] : List UInt8)) = true := bne_iff_ne.mpr c2
    have H' := Aside0.mk H
    clear H
    go_enter Tryz.func98, Tryz.ntmps98
    simp only [kwB_eq]
    go_wp2
    go_loopg [3] k (fun kq v3 w' => ∃ (x3_1 : Int), v3 = .int .i64 x3_1 ∧ Aside0 (jointerref02_IsKeyword.l0 kq a0 x3_1 = some r) ∧ Aside0 (kq ≤ k) ∧ Drawn0 w w')
    case atStart => exact ⟨(0), (by first | rfl | (simp; done) | (simp [*]; done)), H', ⟨Nat.le_refl _⟩, by repeat (first | exact Drawn0.refl _ | apply Drawn0.step)⟩
    case round =>
      clear H'
      try clear c1
      try clear c2
      try clear c2b0
      try clear c2b1
      try clear p2
      obtain ⟨x3_1, rfl, HA, HK1, ⟨m1, rfl⟩⟩ := hrel
      cases gk with
      | zero => exact absurd HA.out (by simp [jointerref02_IsKeyword.l0])
      | succ k1 =>
        have H := HA.out
        clear HA
        simp only [jointerref02_IsKeyword.l0] at H
        by_cases c3 : x3_1 < (a0.size : Int)
        · rw [if_pos c3] at H
          have c3b0 : decide (x3_1 < (a0.size : Int)) = true := decide_eq_true c3
          clear c3
          by_cases c4 : 0 ≤ x3_1
          · rw [if_pos c4] at H
            have c4b0 : decide (0 ≤ x3_1) = true := decide_eq_true c4
            clear c4
            by_cases c6 : (bt a0 x3_1) < 65
            · rw [if_pos c6] at H
              have c6b0 : decide ((bt a0 x3_1) < 65) = true := decide_eq_true c6
              clear c6
              obtain rfl := Option.some.inj H
              have p5 : 0 ≤ (x3_1 : Int) := of_decide_eq_true (by first | (with_reducible assumption) | assumption)
              have q5 : x3_1 < (a0.size : Int) := of_decide_eq_true (by first | (with_reducible assumption) | assumption)
              have hx5 := bt_at a0 x3_1
              replace p5 := eq_true p5
              replace q5 := eq_true q5
              go_wp2
              go_ret
              exact ⟨by first | rfl | (simp; done) | (simp [*]; done), by repeat (first | exact Drawn0.refl _ | apply Drawn0.step)⟩
            · rw [if_neg c6] at H
              have c6b0 : decide ((bt a0 x3_1) < 65) = false := decide_eq_false c6
              clear c6
              by_cases c8 : (bt a0 x3_1) > 90
              · rw [if_pos c8] at H
                have c8b0 : decide (90 < (bt a0 x3_1)) = true := decide_eq_true c8
                clear c8
                obtain rfl := Option.some.inj H
                have p5 : 0 ≤ (x3_1 : Int) := of_decide_eq_true (by first | (with_reducible assumption) | assumption)
                have q5 : x3_1 < (a0.size : Int) := of_decide_eq_true (by first | (with_reducible assumption) | assumption)
                have hx5 := bt_at a0 x3_1
                replace p5 := eq_true p5
                replace q5 := eq_true q5
                have p7 : 0 ≤ (x3_1 : Int) := of_decide_eq_true (by first | (with_reducible assumption) | assumption)
                have q7 : x3_1 < (a0.size : Int) := of_decide_eq_true (by first | (with_reducible assumption) | assumption)
                have hx7 := bt_at a0 x3_1
                replace p7 := eq_true p7
                replace q7 := eq_true q7
                go_wp2
                go_ret
                exact ⟨by first | rfl | (simp; done) | (simp [*]; done), by repeat (first | exact Drawn0.refl _ | apply Drawn0.step)⟩
              · rw [if_neg c8] at H
                have c8b0 : decide (90 < (bt a0 x3_1)) = false := decide_eq_false c8
                clear c8
                have H' := Aside0.mk H
                clear H
                have p5 : 0 ≤ (x3_1 : Int) := of_decide_eq_true (by first | (with_reducible assumption) | assumption)
                have q5 : x3_1 < (a0.size : Int) := of_decide_eq_true (by first | (with_reducible assumption) | assumption)
                have hx5 := bt_at a0 x3_1
                replace p5 := eq_true p5
                replace q5 := eq_true q5
                have p7 : 0 ≤ (x3_1 : Int) := of_decide_eq_true (by first | (with_reducible assumption) | assumption)
                have q7 : x3_1 < (a0.size : Int) := of_decide_eq_true (by first | (with_reducible assumption) | assumption)
                have hx7 := bt_at a0 x3_1
                replace p7 := eq_true p7
                replace q7 := eq_true q7
                go_wp2
                go_roundg k1
                case measure => have := HK1.out; omega
                case rel => exact ⟨(wrap64 (x3_1 + 1)), (by first | rfl | (simp; done) | (simp [*]; done)), H', ⟨by have := HK1.out; omega⟩, by repeat (first | exact Drawn0.refl _ | apply Drawn0.step)⟩
          · rw [if_neg c4] at H
            exact absurd H (by simp)
        · rw [if_neg c3] at H
          have c3b0 : decide (x3_1 < (a0.size : Int)) = false := decide_eq_false c3
          clear c3
          have H' := Aside0.mk H
          clear H
          go_wp2
          go_loopg [4] k1 (fun kq v4 w' => ∃ (x4_2 : Int), v4 = .int .i64 x4_2 ∧ Aside0 (jointerref02_IsKeyword.l1 kq a0 x4_2 = some r) ∧ Aside0 (kq ≤ k1) ∧ Drawn0 w w')
          case atStart => exact ⟨(0), (by first | rfl | (simp; done) | (simp [*]; done)), H', ⟨Nat.le_refl _⟩, by repeat (first | exact Drawn0.refl _ | apply Drawn0.step)⟩
          case round =>
            clear H'
            try clear c1
            try clear c2
            try clear c2b0
            try clear c2b1
            try clear p2
            try clear c3
            try clear c3b0
            try clear c4
            try clear c4b0
            try clear p5
            try clear q5
            try clear hx5
            try clear c6
            try clear c6b0
            try clear p6
            try clear p7
            try clear q7
            try clear hx7
            try clear c8
            try clear c8b0
            try clear p2
            try clear p5
            try clear p7
            try clear q5
            try clear q7
            obtain ⟨x4_2, rfl, HA, HK2, ⟨m2, rfl⟩⟩ := hrel
            cases gk with
            | zero => exact absurd HA.out (by simp [jointerref02_IsKeyword.l1])
            | succ k2 =>
              have H := HA.out
              clear HA
              simp only [jointerref02_IsKeyword.l1] at H
              by_cases c9 : (wrap64 ((wrap64 (x4_2 + (a0.size : Int))) + 2)) ≤ 372
              · rw [if_pos c9] at H
                have c9b0 : decide ((wrap64 ((wrap64 (x4_2 + (a0.size : Int))) + 2)) ≤ 372) = true := decide_eq_true c9
                clear c9
                by_cases c10 : 0 ≤ x4_2
                · rw [if_pos c10] at H
                  have c10b0 := eq_true c10
                  have c10b1 : decide (0 ≤ x4_2) = true := decide_eq_true c10
                  clear c10
                  by_cases c11 : x4_2 ≤ (wrap64 ((wrap64 (x4_2 + (a0.size : Int))) + 2))
                  · rw [if_pos c11] at H
                    have c11b0 := eq_true c11
                    have c11b1 : decide (x4_2 ≤ (wrap64 ((wrap64 (x4_2 + (a0.size : Int))) + 2))) = true := decide_eq_true c11
                    have c12b0 := eq_true (of_decide_eq_true (by first | (with_reducible assumption) | assumption) : (wrap64 ((wrap64 (x4_2 + (a0.size : Int))) + 2)) ≤ 372)
                    by_cases c13 : 1 + a0.size ≤ 9223372036854775807
                    · rw [if_pos c13] at H
                      have c13b0 := eq_true c13
                      have c13b1 : decide (1 + a0.size ≤ 9223372036854775807) = true := decide_eq_true c13
                      try have c13b2 : (9223372036854775807 < 1 + a0.size) = False := eq_false (Nat.not_lt.2 c13)
                      by_cases c14 : ((⟨#[32]⟩ : ByteArray) ++ a0).size + 1 ≤ 9223372036854775807
                      · rw [if_pos c14] at H
                        have c14b0 := eq_true c14
                        have c14x : 1 + a0.size + 1 ≤ 9223372036854775807 := by have h0 := c14; rw [ByteArray.size_append] at h0; exact h0
                        have c14b8 : decide (1 + a0.size + 1 ≤ 9223372036854775807) = true := decide_eq_true c14x
                        have c14b9 : (9223372036854775807 < 1 + a0.size + 1) = False := eq_false (Nat.not_lt.2 c14x)
                        have c14b7 := eq_true c14x
                        have c14b1 : decide (((⟨#[32]⟩ : ByteArray) ++ a0).size + 1 ≤ 9223372036854775807) = true := decide_eq_true c14
                        try have c14b2 : (9223372036854775807 < ((⟨#[32]⟩ : ByteArray) ++ a0).size + 1) = False := eq_false (Nat.not_lt.2 c14)
                        by_cases c15 : (kwB.extract (x4_2 : Int).toNat ((wrap64 ((wrap64 (x4_2 + (a0.size : Int))) + 2)) : Int).toNat).toList = (((⟨#[32]⟩ : ByteArray) ++ a0) ++ (⟨#[32]⟩ : ByteArray)).toList
                        · rw [if_pos c15] at H
                          have c15b0 : ((kwB.extract (x4_2 : Int).toNat ((wrap64 ((wrap64 (x4_2 + (a0.size : Int))) + 2)) : Int).toNat).toList == (((⟨#[32]⟩ : ByteArray) ++ a0) ++ (⟨#[32]⟩ : ByteArray)).toList) = true := beq_iff_eq.mpr c15
                          have c15b1 : ((kwB.extract (x4_2 : Int).toNat ((wrap64 ((wrap64 (x4_2 + (a0.size : Int))) + 2)) : Int).toNat).toList != (((⟨#[32]⟩ : ByteArray) ++ a0) ++ (⟨#[32]⟩ : ByteArray)).toList) = false := bne_eq_false_iff_eq.mpr c15
                          clear c15
                          obtain rfl := Option.some.inj H
                          go_wp2
                          go_ret
                          exact ⟨by first | rfl | (simp; done) | (simp [*]; done), by repeat (first | exact Drawn0.refl _ | apply Drawn0.step)⟩
                        · rw [if_neg c15] at H
                          have c15b0 : ((kwB.extract (x4_2 : Int).toNat ((wrap64 ((wrap64 (x4_2 + (a0.size : Int))) + 2)) : Int).toNat).toList == (((⟨#[32]⟩ : ByteArray) ++ a0) ++ (⟨#[32]⟩ : ByteArray)).toList) = false := beq_eq_false_iff_ne.mpr c15
                          have c15b1 : ((kwB.extract (x4_2 : Int).toNat ((wrap64 ((wrap64 (x4_2 + (a0.size : Int))) + 2)) : Int).toNat).toList != (((⟨#[32]⟩ : ByteArray) ++ a0) ++ (⟨#[32]⟩ : ByteArray)).toList) = true := bne_iff_ne.mpr c15
                          have H' := Aside0.mk H
                          clear H
                          go_wp2
                          go_roundg k2
                          case measure => have := HK1.out; have := HK2.out; omega
                          case rel => exact ⟨(wrap64 (x4_2 + 1)), (by first | rfl | (simp; done) | (simp [*]; done)), H', ⟨by have := HK1.out; have := HK2.out; omega⟩, by repeat (first | exact Drawn0.refl _ | apply Drawn0.step)⟩
                      · rw [if_neg c14] at H
                        exact absurd H (by simp)
                    · rw [if_neg c13] at H
                      exact absurd H (by simp)
                  · rw [if_neg c11] at H
                    exact absurd H (by simp)
                · rw [if_neg c10] at H
                  exact absurd H (by simp)
              · rw [if_neg c9] at H
                have c9b0 : decide ((wrap64 ((wrap64 (x4_2 + (a0.size : Int))) + 2)) ≤ 372) = false := decide_eq_false c9
                clear c9
                obtain rfl := Option.some.inj H
                go_wp2
                go_ret
                exact ⟨by first | rfl | (simp; done) | (simp [*]; done), by repeat (first | exact Drawn0.refl _ | apply Drawn0.step)⟩

end Go.Proofs.YthgfdnffnbclpaaGreatDoor.PAll
namespace Go.Proofs.YthgfdnffnbclpaaGreatDoor.PAll
open Go.RowKit Go.Shelf Go.Proofs.YthgfdnffnbclpaaGreatDoorW.PrintWords Go.Proofs.YthgfdnffnbclpaaGreatDoorW.PrintLast Go.Proofs.YthgfdnffnbclpaaGreatDoorW.PrintMore
attribute [local go_sem] Oper.semAt_some

def spB (c : UInt8) : Bool := decide (c.toNat = 9 ∨ c.toNat = 10 ∨ c.toNat = 11 ∨ c.toNat = 12 ∨ c.toNat = 13 ∨ c.toNat = 32)
/-- The pieces between blanks, a piece being under way. -/
def flds : List UInt8 → List UInt8 → List (List UInt8)
  | acc, [] => if acc = [] then [] else [acc]
  | acc, c :: r => if spB c = true then (if acc = [] then flds [] r else acc :: flds [] r) else flds (acc ++ [c]) r
def pieces (s : ByteArray) : List ByteArray := (flds [] s.data.toList).map fun b => ⟨b.toArray⟩

/-- What a round keeps: what lies below a block, and the block of the iterator's own text. -/
def KpF (n₀ Bs : Nat) (A B : World) : Prop := Below n₀ A B ∧ B.heap[Bs]? = A.heap[Bs]?
theorem KpF.trans {n₀ Bs : Nat} {A B C : World} (h : KpF n₀ Bs A B) (k : KpF n₀ Bs B C) : KpF n₀ Bs A C := ⟨h.1.trans k.1, k.2.trans h.2⟩
theorem KpF.refl (n₀ Bs : Nat) (A : World) : KpF n₀ Bs A A := ⟨Below.refl _ _, rfl⟩
theorem cell_same {A B : World} {b : Nat} (h : B.heap[b]? = A.heap[b]?) (j : Nat) : B.cell? ⟨b, j, none⟩ = A.cell? ⟨b, j, none⟩ := by simp [World.cell?, h]
theorem sdrop_at {s : ByteArray} {k : Nat} (h : k < s.size) : s.data.toList.drop k = s[k] :: s.data.toList.drop (k + 1) := by
  have h' : k < s.data.toList.length := by simpa using h
  rw [List.drop_eq_getElem_cons h']
  rfl
theorem extract_list (s : ByteArray) (a b : Nat) : s.extract a b = ⟨((s.data.toList.drop a).take (b - a)).toArray⟩ := by
  apply ByteArray.ext
  rw [ByteArray.data_extract]
  apply Array.toList_inj.mp
  simp

set_option maxRecDepth 100000 in
set_option maxHeartbeats 4000000 in
theorem fields1_in (F : Fence) (n : Nat) (h54 : F.fn 175) (hro : F.round = none) (hn : 1 ≤ n) (l Bs n₀ : Nat) (s : ByteArray) (hasc : ∀ b ∈ s.data.toList, b.toNat < 128) (hsz : s.size ≤ 4294967296) (J Jx : List ByteArray → World → Prop)
    (hY : ∀ pre x W, J pre W → pre.length < s.size + 1 → YieldAt F (n - 1) Tryz.prog l #[.string x] W fun e W' =>
      (e = .returned (.bool true) ∧ J (pre ++ [x]) W' ∧ KpF n₀ Bs W W') ∨ (e = .returned (.bool false) ∧ Jx (pre ++ [x]) W'))
    (W : World) (hBs : W.cell? ⟨Bs, 0, none⟩ = some (.string s)) (hT : ∀ c : Nat, c < 256 → W.cell? ⟨0, c, none⟩ = some (.int .u8 (if c = 9 ∨ c = 10 ∨ c = 11 ∨ c = 12 ∨ c = 13 ∨ c = 32 then 1 else 0))) (h0n : 0 < n₀) (h0 : J [] W) :
    CallsIn F n Tryz.prog 175 #[.func (.yield l) #[] #[], .pointer (some ⟨Bs, 0, none⟩)] W fun e W' => (∃ v, e = .returned v) ∧
      ((∃ ys, ys = pieces s ∧ J ys W') ∨ (∃ pre, pre <+: pieces s ∧ Jx pre W')) := by
  refine callsIn_of_wp Tryz.func175 rfl h54 ?_ hro
  simp only [Tryz.ntmps175, List.size_toArray, List.length_cons, List.length_nil, Nat.reduceAdd, Nat.reduceSub, Array.replicate_succ, Array.replicate_zero, List.push_toArray, List.append_toArray, List.nil_append, List.cons_append]
  gi_wp2
  gi_loopw [3, 4] (fun v3 v4 wr => ∃ (i : Nat) (pre : List ByteArray) (acc : List UInt8), v4 = .int .i64 i ∧ i ≤ s.size ∧ ((v3 = .int .i64 (-1) ∧ acc = []) ∨ ∃ st : Nat, v3 = .int .i64 st ∧ st < i ∧ acc = (s.data.toList.drop st).take (i - st)) ∧
      Aside0 (pieces s = pre ++ (flds acc (s.data.toList.drop i)).map (fun b => (⟨b.toArray⟩ : ByteArray))) ∧ pre.length ≤ i ∧ J pre wr ∧ KpF n₀ Bs W wr)
    (fun _ i _ => s.size - (intOf i).toNat)
  case atStart => exact ⟨0, [], [], rfl, Nat.zero_le _, .inl ⟨rfl, rfl⟩, ⟨rfl⟩, Nat.le_refl _, h0, KpF.refl _ _ _⟩
  case round =>
    obtain ⟨i, pre, acc, rfl, hi, hst, HF, hpl, hJs, hK⟩ := hrel
    have hs : wr.cell? ⟨Bs, 0, none⟩ = some (.string s) := (cell_same hK.2 0).trans hBs
    by_cases hlt : i < s.size
    · have hd := sdrop_at hlt
      have hc128 : s[i].toNat < 128 := hasc _ (by rw [← List.mem_toArray, Array.toArray_toList]; exact Array.getElem_mem _)
      have hcell : wr.cell? ⟨0, s[i].toNat, none⟩ = some (.int .u8 (if s[i].toNat = 9 ∨ s[i].toNat = 10 ∨ s[i].toNat = 11 ∨ s[i].toNat = 12 ∨ s[i].toNat = 13 ∨ s[i].toNat = 32 then 1 else 0)) := (hK.1.cell (p := ⟨0, s[i].toNat, none⟩) h0n).trans (hT _ (by omega))
      have hci : (↑s[i].toNat : Int) < 128 := by omega
      have hci0 : (0 : Int) ≤ (↑s[i].toNat : Int) := by omega
      by_cases hsp : s[i].toNat = 9 ∨ s[i].toNat = 10 ∨ s[i].toNat = 11 ∨ s[i].toNat = 12 ∨ s[i].toNat = 13 ∨ s[i].toNat = 32
      · rw [if_pos hsp] at hcell
        have hspB : spB s[i] = true := decide_eq_true hsp
        rcases hst with ⟨rfl, rfl⟩ | ⟨st, rfl, hst1, rfl⟩
        · have HF' : Aside0 (pieces s = pre ++ (flds [] (s.data.toList.drop (i + 1))).map (fun b => (⟨b.toArray⟩ : ByteArray))) := by
            have h1 := HF.out
            rw [hd, flds, if_pos hspB, if_pos rfl] at h1
            exact ⟨h1⟩
          clear HF hd hT hsp hspB
          gi_wp2
          go_roundw
          case rel => exact ⟨i + 1, pre, [], by first | rfl | simp, by omega, .inl ⟨rfl, rfl⟩, HF', by omega, hJs, hK⟩
          case measure => simp [intOf]; omega
        · have hne : (s.data.toList.drop st).take (i - st) ≠ [] := by
            intro e
            have := congrArg List.length e
            simp at this
            omega
          have hex : s.extract st i = ⟨((s.data.toList.drop st).take (i - st)).toArray⟩ := extract_list s st i
          have HF' : Aside0 (pieces s = (pre ++ [s.extract st i]) ++ (flds [] (s.data.toList.drop (i + 1))).map (fun b => (⟨b.toArray⟩ : ByteArray))) := by
            have h1 := HF.out
            rw [hd, flds, if_pos hspB, if_neg hne] at h1
            rw [h1, hex]
            exact ⟨by simp⟩
          obtain ⟨fn, tmps, assign, body, hy, hR⟩ := hY pre (s.extract st i) wr hJs (by omega)
          have j0 : (0 : Int) ≤ (st : Int) := by omega
          have j1 : (st : Int) ≤ (i : Int) := by omega
          have j2 : (i : Int) ≤ (s.size : Int) := by omega
          clear HF hd hT hsp hspB hne hex
          gi_wp2
          refine hR.mono ?_
          rintro e W3 (⟨rfl, hJ3, hk3⟩ | ⟨rfl, hJx3⟩)
          · gi_wp2
            go_roundw
            case rel => exact ⟨i + 1, pre ++ [s.extract st i], [], by first | rfl | simp, by omega, .inl ⟨rfl, rfl⟩, HF', by simp; omega, hJ3, hK.trans hk3⟩
            case measure => simp [intOf]; omega
          · gi_wp2
            refine bodyPost_ret (results_none rfl _ _ _) rfl ?_
            exact ⟨⟨_, rfl⟩, .inr ⟨_, ⟨_, HF'.out.symm⟩, hJx3⟩⟩
      · rw [if_neg hsp] at hcell
        have hspB : ¬ spB s[i] = true := by simpa [spB] using hsp
        rcases hst with ⟨rfl, rfl⟩ | ⟨st, rfl, hst1, rfl⟩
        · have hacc : [s[i]] = (s.data.toList.drop i).take (i + 1 - i) := by rw [hd]; simp
          have HF' : Aside0 (pieces s = pre ++ (flds ((s.data.toList.drop i).take (i + 1 - i)) (s.data.toList.drop (i + 1))).map (fun b => (⟨b.toArray⟩ : ByteArray))) := by
            have h1 := HF.out
            rw [hd, flds, if_neg hspB, List.nil_append] at h1
            rw [← hacc]
            exact ⟨h1⟩
          clear HF hd hT hsp hspB hacc
          gi_wp2
          go_roundw
          case rel => exact ⟨i + 1, pre, _, by first | rfl | simp, by omega, .inr ⟨i, rfl, by omega, rfl⟩, HF', by omega, hJs, hK⟩
          case measure => simp [intOf]; omega
        · have hacc : (s.data.toList.drop st).take (i - st) ++ [s[i]] = (s.data.toList.drop st).take (i + 1 - st) := by
            have e1 : i + 1 - st = (i - st) + 1 := by omega
            rw [e1, List.take_add_one]
            congr 1
            rw [List.getElem?_drop, show st + (i - st) = i by omega]
            have h' : i < s.data.toList.length := by simpa using hlt
            rw [List.getElem?_eq_getElem h']
            rfl
          have HF' : Aside0 (pieces s = pre ++ (flds ((s.data.toList.drop st).take (i + 1 - st)) (s.data.toList.drop (i + 1))).map (fun b => (⟨b.toArray⟩ : ByteArray))) := by
            have h1 := HF.out
            rw [hd, flds, if_neg hspB, hacc] at h1
            exact ⟨h1⟩
          have j0 : ¬ (st : Int) < 0 := by omega
          clear HF hd hT hsp hspB hacc
          gi_wp2
          go_roundw
          case rel => exact ⟨i + 1, pre, _, by first | rfl | simp, by omega, .inr ⟨st, rfl, by omega, rfl⟩, HF', by omega, hJs, hK⟩
          case measure => simp [intOf]; omega
    · obtain rfl : i = s.size := by omega
      have hnil : s.data.toList.drop s.size = [] := List.drop_eq_nil_of_le (by simp)
      rcases hst with ⟨rfl, rfl⟩ | ⟨st, rfl, hst1, rfl⟩
      · have HF' : Aside0 (pieces s = pre) := by
          have h1 := HF.out
          rw [hnil, flds, if_pos rfl] at h1
          exact ⟨by simpa using h1⟩
        clear HF
        gi_wp2
        go_end0
        exact ⟨⟨_, rfl⟩, .inl ⟨pre, HF'.out.symm, hJs⟩⟩
      · have hne : (s.data.toList.drop st).take (s.size - st) ≠ [] := by
          intro e
          have := congrArg List.length e
          simp at this
          omega
        have hex : s.extract st s.size = ⟨((s.data.toList.drop st).take (s.size - st)).toArray⟩ := extract_list s st s.size
        have HF' : Aside0 (pieces s = pre ++ [s.extract st s.size]) := by
          have h1 := HF.out
          rw [hnil, flds, if_neg hne] at h1
          rw [h1, hex]
          exact ⟨rfl⟩
        obtain ⟨fn, tmps, assign, body, hy, hR⟩ := hY pre (s.extract st s.size) wr hJs (by omega)
        have j0 : (0 : Int) ≤ (st : Int) := by omega
        have j2 : (st : Int) ≤ (s.size : Int) := by omega
        clear HF hnil hne hex hT
        gi_wp2
        refine hR.mono ?_
        rintro e W3 (⟨rfl, hJ3, hk3⟩ | ⟨rfl, hJx3⟩)
        · gi_wp2
          go_end0
          exact ⟨⟨_, rfl⟩, .inl ⟨_, HF'.out.symm, hJ3⟩⟩
        · gi_wp2
          go_end0
          exact ⟨⟨_, rfl⟩, .inr ⟨_, ⟨[], by rw [List.append_nil]; exact HF'.out.symm⟩, hJx3⟩⟩
end Go.Proofs.YthgfdnffnbclpaaGreatDoor.PAll
namespace Go.Proofs.YthgfdnffnbclpaaGreatDoor.PAll
open Go.RowKit Go.Shelf Go.Proofs.YthgfdnffnbclpaaGreatDoorW.PrintWords Go.Proofs.YthgfdnffnbclpaaGreatDoorW.PrintLast Go.Proofs.YthgfdnffnbclpaaGreatDoorW.PrintMore
attribute [local go_sem] Oper.semAt_some

theorem cell_new_b (W : World) (v : Value) (t : TypeId) : (W.alloc (.cells #[v] t)).cell? ⟨W.heap.size, 0, none⟩ = some v ∧ (W.alloc (.cells #[v] t)).frozen? ⟨W.heap.size, 0, none⟩ = false := by
  have h := World.alloc_heap_new W (.cells #[v] t)
  exact ⟨by unfold World.cell?; rw [h]; rfl, by unfold World.frozen?; rw [h]; rfl⟩
theorem cell_alloc_b {W : World} {a : Addr} {v : Value} (o : Obj) (h : W.cell? a = some v) : (W.alloc o).cell? a = some v := Go.cell_kept h (World.grownBy_alloc W o none) (fun r e => by cases e)
theorem frozen_alloc_b {W : World} {a : Addr} {v : Value} (o : Obj) (h : W.cell? a = some v) (hf : W.frozen? a = false) : (W.alloc o).frozen? a = false := (Go.frozen_kept h (World.grownBy_alloc W o none) (fun r e => by cases e)).trans hf

theorem KpF.t {n₀ Bs : Nat} {A B C : World} (h : KpF n₀ Bs A B) (k : KpF n₀ Bs B C) : KpF n₀ Bs A C := h.trans k
theorem KpF.b {n₀ Bs : Nat} {w : World} (h : n₀ ≤ w.heap.size) (hb : Bs < w.heap.size) : ∀ (W : World) (l : Nat) (o o' : Obj), w.heap.size ≤ l → W.heap[l]? = some o → o.isCells = false → o.isWalk = false → KpF n₀ Bs W (W.putObj l o') :=
  fun W l o o' hl ho hc hw => ⟨belowK_b h W l o o' hl ho hc hw, (grownBy_putObj' W l o').block Bs (by
    rcases Nat.lt_or_ge l W.heap.size with h1 | h1
    · omega
    · simp [Array.getElem?_eq_none h1] at ho) (fun e => by cases e; omega)⟩

theorem fields_stops (F : Fence) (n : Nat) (h54 : F.fn 175) (hro : F.round = none) (hn : 1 ≤ n) (Bs n₀ : Nat) (s : ByteArray) (hasc : ∀ b ∈ s.data.toList, b.toNat < 128) (hsz : s.size ≤ 4294967296) (w : World) (hB : Bs < w.heap.size) (hn₀ : n₀ ≤ w.heap.size) (h0n : 0 < n₀)
    (hc : w.cell? ⟨Bs, 0, none⟩ = some (.string s)) (hT : ∀ c : Nat, c < 256 → w.cell? ⟨0, c, none⟩ = some (.int .u8 (if c = 9 ∨ c = 10 ∨ c = 11 ∨ c = 12 ∨ c = 13 ∨ c = 32 then 1 else 0))) :
    SeqStopsK F n Tryz.prog 175 #[.pointer (some ⟨Bs, 0, none⟩)] (fun x : ByteArray => #[Value.string x]) (KpF n₀ Bs) (fun ys => ys = pieces s) (fun pre => pre <+: pieces s) (s.size + 1) w := fun l J Jx W hW _ _ hY h0 =>
  fields1_in F n h54 hro hn l Bs n₀ s hasc hsz J Jx hY W ((hW.cell (p := ⟨Bs, 0, none⟩) hB).trans hc) (fun c hcc => (hW.cell (p := ⟨0, c, none⟩) (by show 0 < w.heap.size; omega)).trans (hT c hcc)) h0n h0

set_option maxHeartbeats 1000000 in
theorem fields_mk (s : ByteArray) (w : World) :
    Calls Tryz.prog 149 #[.string s] w fun e w' => e = .returned (.func (.func 175) #[] #[.pointer (some ⟨w.heap.size, 0, none⟩)]) ∧ w' = w.alloc (.cells #[.string s] 9) := by
  go_enter Tryz.func149, Tryz.ntmps149
  go_wp2
  go_ret
  exact ⟨rfl, rfl⟩

theorem kw_pieces : flds [] kwM = kwsL := by decide +kernel
theorem kwC_list : kwC.data.toList = kwM := rfl
theorem mem_pieces (a : ByteArray) (s : ByteArray) : a ∈ pieces s ↔ a.data.toList ∈ flds [] s.data.toList := by
  unfold pieces
  rw [List.mem_map]
  constructor
  · rintro ⟨b, hb, rfl⟩; exact hb
  · intro h; exact ⟨_, h, by cases a; rfl⟩
theorem isKw_mem (a : ByteArray) : isKw a.data.toList = true ↔ a ∈ pieces kwC := by
  rw [mem_pieces, kwC_list, kw_pieces]
  unfold isKw
  exact List.contains_iff_mem

set_option maxRecDepth 100000 in
set_option maxHeartbeats 2000000 in
theorem isKeyword_walk (a0 : ByteArray) (w : World) (hL : LaidL w) :
    Calls Tryz.prog 108 #[.string a0] w fun e W' => e = .returned (.bool (isKw a0.data.toList)) ∧ Below w.heap.size w W' := by
  have hpos : 0 < w.heap.size := (World.block_lt_of_cell? w _ (hL.tab 0 (by decide)) : (⟨0, 0, none⟩ : Addr).block < w.heap.size)
  have hasc : ∀ b ∈ kwC.data.toList, b.toNat < 128 := by
    have : kwC.data.toList.all (fun b => decide (b.toNat < 128)) = true := by decide +kernel
    intro b hb
    exact of_decide_eq_true (List.all_eq_true.1 this b hb)
  refine (callsIn_wide (n := 6)).1 ?_
  refine callsIn_of_wp_marks Tryz.func108 rfl trivial ?_ rfl
  simp only [Tryz.ntmps108, List.size_toArray, List.length_cons, List.length_nil, Nat.reduceAdd, Nat.reduceSub, Array.replicate_succ, Array.replicate_zero, List.push_toArray, List.append_toArray, List.nil_append, List.cons_append]
  simp only [kwC_eq]
  gi_wp2_with (refine ⟨trivial, ?_⟩; gi_at_call 149; refine (callsIn_wide.2 (fields_mk kwC _)).mono ?_; rintro e w' ⟨rfl, rfl⟩)
  have c0 := cell_new_b w (.string a0) 9
  have c1 := cell_new_b (w.alloc (.cells #[.string a0] 9)) (.bool false) 4
  have c2 := cell_new_b ((w.alloc (.cells #[.string a0] 9)).alloc (.cells #[.bool false] 4)) (.string kwC) 9
  simp only [World.size_alloc] at c1 c2
  have hB0 : Below w.heap.size w (((w.alloc (.cells #[.string a0] 9)).alloc (.cells #[.bool false] 4)).alloc (.cells #[.string kwC] 9)) := (((Below.refl _ w).alloc (Nat.le_refl _) _).alloc (by simp) _).alloc (by simp; omega) _
  refine wpIn_rangeFunc_ownF rfl (by omega) (gf := 175) (lb := #[.pointer (some ⟨w.heap.size + 1 + 1, 0, none⟩)]) rfl trivial (enters_of Tryz.func175 (by kernel_rfl) rfl)
    (fields_stops Fence.wide (6 - 1) trivial rfl (by omega) (w.heap.size + 1 + 1) w.heap.size kwC hasc (by rw [kwC_size]; omega) _ (by simp) (by simp; omega) hpos c2.1 (fun c hc => (hB0.cell (p := ⟨0, c, none⟩) hpos).trans (hL.tab c hc))) (fun h k => KpF.t h k) (KpF.b (by simp; omega) (by simp)) (Below.refl _ _) (fun _ => rfl)
    (fun pre W => ((∀ y ∈ pre, y ≠ a0) ∧ W.cell? ⟨w.heap.size, 0, none⟩ = some (.string a0) ∧ W.cell? ⟨w.heap.size + 1, 0, none⟩ = some (.bool false) ∧ W.frozen? ⟨w.heap.size + 1, 0, none⟩ = false) ∧ Below w.heap.size w W)
    (fun c pre W => (c = .ret ∧ a0 ∈ pre ∧ W.cell? ⟨w.heap.size + 1, 0, none⟩ = some (.bool true)) ∧ Below w.heap.size w W)
    (OwnFrom.and (Own.from (fun s A B row hs hg hr => ⟨hs.1, Go.cell_kept hs.2.1 hg hr, Go.cell_kept hs.2.2.1 hg hr, (Go.frozen_kept hs.2.2.1 hg hr).trans hs.2.2.2⟩) _) (ownFrom_below (Nat.le_refl _) (by simp; omega)))
    (fun c => OwnFrom.and (Own.from (fun s A B row hs hg hr => ⟨hs.1, hs.2.1, Go.cell_kept hs.2.2 hg hr⟩) _) (ownFrom_below (Nat.le_refl _) (by simp; omega)))
    ⟨⟨by simp, cell_alloc_b _ (cell_alloc_b _ c0.1), cell_alloc_b _ c1.1, frozen_alloc_b _ c1.1 c1.2⟩, hB0⟩
    (fun x => { tmps := #[.string a0, .pointer (some ⟨w.heap.size, 0, none⟩), .pointer (some ⟨w.heap.size + 1, 0, none⟩), .string x, .func (.func 175) #[] #[.pointer (some ⟨w.heap.size + 1 + 1, 0, none⟩)], .string x, undef, undef, undef], defers := [] }) ?assign ?body ?done ?stop
  case assign =>
    intro l x W K hK
    gi_wp2
    exact hK
  case body =>
    rintro l pre x W ⟨⟨hp, hcw, hcr, hfr⟩, hB⟩ _
    gi_wp2
    · rename_i hx
      have hx' : x = a0 := by
        apply ByteArray.ext
        have e := hx
        first
          | (rw [beq_iff_eq] at e; rw [Lib.toList_data, Lib.toList_data] at e; exact Array.toList_inj.1 e)
          | (rw [Lib.toList_data, Lib.toList_data] at e; exact Array.toList_inj.1 e)
          | (subst e; rfl)
      subst hx'
      exact ⟨KeepsOthers.setCell _ _ _, ⟨rfl, List.mem_append.2 (.inr (by simp)), World.cell?_setCell_same' _ _ _ (by rw [hcr]; rfl)⟩, hB.setCell (p := ⟨w.heap.size + 1, 0, none⟩) (by simp) _⟩
    · rename_i hx
      have hx' : x ≠ a0 := by
        rintro rfl
        simp at hx
      exact ⟨KeepsOthers.refl _, KpF.refl _ _ _, ⟨fun y hy => (List.mem_append.1 hy).elim (hp y) (fun e e' => by simp at e; subst e; exact hx' e'), hcw, hcr, hfr⟩, hB⟩
  case done =>
    rintro D ys W hD rfl ⟨⟨hne, _, hcr, hfr⟩, hB⟩ hK
    have hk : isKw a0.data.toList = false := by
      rw [← Bool.not_eq_true, isKw_mem]
      intro h
      exact hne a0 h rfl
    gi_wp2
    have hK' := (KeepsOthers.setCell W ⟨w.heap.size + 1, 0, none⟩ (.bool false)).same D _ hK rfl
    refine ⟨by simp, .inl ⟨_, _, rfl, run_takeDeferred hK', ?_⟩⟩
    have hc5 := Go.cell_kept (World.cell?_setCell_same' W ⟨w.heap.size + 1, 0, none⟩ (.bool false) (by rw [hcr]; rfl)) (grownBy_putObj' _ D (.deferred none)) (fun r e => by cases e; exact ⟨_, hK', rfl⟩)
    refine ⟨.bool false, ?_, by rw [hk], (hB.setCell (p := ⟨w.heap.size + 1, 0, none⟩) (by simp) _).trans (belowK_b (w := w) (Nat.le_refl _) _ D _ _ (by simp at hD; omega) hK' rfl rfl)⟩
    simp [results, Tryz.f108, go_sem, hc5]
  case stop =>
    rintro D c pre W hD hpre ⟨⟨rfl, hin, hcr⟩, hB⟩ hK
    have hk : isKw a0.data.toList = true := (isKw_mem a0).2 (hpre.subset hin)
    gi_wp2
    refine ⟨by simp, .inl ⟨_, _, rfl, run_takeDeferred hK, ?_⟩⟩
    have hc5 := Go.cell_kept hcr (grownBy_putObj' _ D (.deferred none)) (fun r e => by cases e; exact ⟨_, hK, rfl⟩)
    refine ⟨.bool true, ?_, by rw [hk], hB.trans (belowK_b (w := w) (Nat.le_refl _) W D _ _ (by simp at hD; omega) hK rfl rfl)⟩
    simp [results, Tryz.f108, go_sem, hc5]
end Go.Proofs.YthgfdnffnbclpaaGreatDoor.PAll
namespace Go.Proofs.YthgfdnffnbclpaaGreatDoor.PAll
open Go.RowKit Go.Proofs.YthgfdnffnbclpaaGreatDoorW.PrintWords Go.Proofs.YthgfdnffnbclpaaGreatDoorW.PrintLast Go.Proofs.YthgfdnffnbclpaaGreatDoorW.PrintMore
def lex_IsKeyword.f (a0 : ByteArray) : Option (Bool) := some (isKw a0.data.toList)
theorem lex_IsKeyword.calls (a0 : ByteArray) (r : Bool) (w : World) (h : lex_IsKeyword.f a0 = some r) (hL : LaidL w) :
    Calls Tryz.prog 108 #[.string a0] w fun e w' => e = .returned (.bool r) ∧ Below w.heap.size w w' := by
  obtain rfl := Option.some.inj h
  exact isKeyword_walk a0 w hL
end Go.Proofs.YthgfdnffnbclpaaGreatDoor.PAll
namespace Go.Proofs.YthgfdnffnbclpaaGreatDoor.PAll
open Go.RowKit Go.Proofs.YthgfdnffnbclpaaGreatDoorW.PrintWords Go.Proofs.YthgfdnffnbclpaaGreatDoorW.PrintLast Go.Proofs.YthgfdnffnbclpaaGreatDoorW.PrintMore

def foldB (up : Bool) (b : UInt8) : UInt8 := if up = true then Lx.up b else Lx.low b
def jointerref02_folded.f (a0 : ByteArray) (a1 : Bool) : Option (ByteArray) := if a0.size ≤ 140737488355328 then some ⟨(a0.data.toList.map (foldB a1)).toArray⟩ else none

theorem sget {s : ByteArray} {k : Nat} (h : k < s.size) : s.data.toList[k]? = some s[k] := by
  have h' : k < s.data.toList.length := by simpa using h
  rw [List.getElem?_eq_getElem h']; rfl

set_option maxHeartbeats 8000000 in
set_option maxRecDepth 100000 in
theorem jointerref02_folded.calls (a0 : ByteArray) (a1 : Bool) (r : ByteArray) (w : World) (h : jointerref02_folded.f a0 a1 = some r) :
    Calls Tryz.prog 99 #[.string a0, .bool a1] w fun e w' => e = .returned (.string r) ∧ Below w.heap.size w w' := by
  unfold jointerref02_folded.f at h
  split at h
  case isFalse => cases h
  rename_i hs
  obtain rfl := Option.some.inj h
  clear h
  have hcv := Lib.run_convert_string_bytes (P := Tryz.prog) w 9 188 5 a0 Tryz.underlying9 Tryz.underlying188 Tryz.underlying5
  have hB : ∀ (j : Nat) (hj : j < a0.size), (Lib.bytesWorld w 5 a0).cell? ⟨w.heap.size, j, none⟩ = some (.int .u8 (if j < 0 then foldB a1 a0[j] else a0[j]).toNat) := by
    intro j hj
    rw [Lib.bytesWorld_cell w 5 a0 j hj, if_neg (by omega)]
    have := sget hj
    simp [List.getD, this]
  have hF : ∀ (j : Nat) (hj : j < a0.size), (Lib.bytesWorld w 5 a0).frozen? ⟨w.heap.size, j, none⟩ = false := by
    intro j hj
    have hz : a0.size ≤ (Lib.bytesCells w 5 a0).size := by simp [Lib.bytesCells]
    unfold World.frozen?
    rw [Lib.bytesWorld_at_new]
    simp
    omega
  have hbel : Below w.heap.size w (Lib.bytesWorld w 5 a0) := bytes_below (Below.refl _ _) (Nat.le_refl _) 5 a0
  generalize Lib.bytesWorld w 5 a0 = W1 at *
  generalize grownCap w a0.size 0 5 = cp at *
  have HB := Aside0.mk hB
  have HF := Aside0.mk hF
  have HBL := Aside0.mk hbel
  clear hB hF hbel
  go_enter Tryz.func99, Tryz.ntmps99
  go_wp2
  go_loopg [6] a0.size (fun gk v6 wx => ∃ k : Nat, k + gk = a0.size ∧ v6 = .int .i64 k ∧ Aside0 (∀ (j : Nat) (hj : j < a0.size), wx.cell? ⟨w.heap.size, j, none⟩ = some (.int .u8 (if j < k then foldB a1 a0[j] else a0[j]).toNat)) ∧ Aside0 (∀ (j : Nat) (hj : j < a0.size), wx.frozen? ⟨w.heap.size, j, none⟩ = false) ∧ Aside0 (Below w.heap.size w wx))
  case atStart => exact ⟨0, by omega, rfl, HB, HF, HBL⟩
  case round =>
    clear HB HF HBL hcv
    obtain ⟨k, hk, rfl, HC, HF, HBL⟩ := hrel
    cases gk with
    | zero =>
      have hcb := run_convert_bytes_back (P := Tryz.prog) wr 188 9 5 ⟨w.heap.size, 0, none⟩ cp (a0.data.toList.map (foldB a1)) Tryz.underlying188 Tryz.underlying5 Tryz.underlying9 (fun j hj => by
        have hj' : j < a0.size := by simpa using hj
        have := HC.out j hj'
        rw [if_pos (by omega)] at this
        have e := sget hj'
        have e2 : (a0.data.toList.map (foldB a1))[j] = foldB a1 a0[j] := by
          rw [List.getElem_map]
          congr 1
        rw [e2, show (⟨w.heap.size, 0, none⟩ : Addr).add j = ⟨w.heap.size, j, none⟩ from by by_cases h : j = 0 <;> simp [Addr.add, h]]
        exact this)
      rw [show (a0.data.toList.map (foldB a1)).length = a0.size by simp] at hcb
      generalize hRB : (⟨(a0.data.toList.map (foldB a1)).toArray⟩ : ByteArray) = RB at *
      go_wp2
      go_ret
      exact ⟨by rw [hRB]; rfl, HBL.out⟩
    | succ gk =>
      have hlt : k < a0.size := by omega
      have hc := HC.out k hlt
      rw [if_neg (by omega)] at hc
      have hf := HF.out k hlt
      have hki : (k : Int) < (a0.size : Int) := by omega
      have hki0 : (0 : Int) ≤ (k : Int) := by omega
      have hst : ∀ (u : UInt8), foldB a1 a0[k] = u → Aside0 (∀ (j : Nat) (hj : j < a0.size), (wr.setCell ⟨w.heap.size, k, none⟩ (.int .u8 u.toNat)).cell? ⟨w.heap.size, j, none⟩ = some (.int .u8 (if j < k + 1 then foldB a1 a0[j] else a0[j]).toNat)) := by
        intro u hu
        refine ⟨fun j hj => ?_⟩
        by_cases hjk : j = k
        · subst hjk
          rw [if_pos (by omega), World.cell?_setCell_same' wr _ _ (by rw [hc]; rfl), hu]
        · have hne : (⟨w.heap.size, k, none⟩ : Addr) ≠ ⟨w.heap.size, j, none⟩ := fun e => hjk (by injection e with _ e2; exact e2.symm)
          rw [show (wr.setCell ⟨w.heap.size, k, none⟩ (.int .u8 u.toNat)).cell? ⟨w.heap.size, j, none⟩ = wr.cell? ⟨w.heap.size, j, none⟩ from World.cell?_setCell_other _ _ _ _ hne, HC.out j hj]
          by_cases h1 : j < k
          · rw [if_pos h1, if_pos (by omega)]
          · rw [if_neg h1, if_neg (by omega)]
      have hno : foldB a1 a0[k] = a0[k] → Aside0 (∀ (j : Nat) (hj : j < a0.size), wr.cell? ⟨w.heap.size, j, none⟩ = some (.int .u8 (if j < k + 1 then foldB a1 a0[j] else a0[j]).toNat)) := by
        intro hu
        refine ⟨fun j hj => ?_⟩
        rw [HC.out j hj]
        by_cases h1 : j < k
        · rw [if_pos h1, if_pos (by omega)]
        · rw [if_neg h1]
          by_cases hjk : j = k
          · subst hjk; rw [if_pos (by omega), hu]
          · rw [if_neg (by omega)]
      have hfs : ∀ v, Aside0 (∀ (j : Nat) (hj : j < a0.size), (wr.setCell ⟨w.heap.size, k, none⟩ v).frozen? ⟨w.heap.size, j, none⟩ = false) := fun v => ⟨fun j hj => by rw [World.frozen?_setCell]; exact HF.out j hj⟩
      have hbs : ∀ v, Aside0 (Below w.heap.size w (wr.setCell ⟨w.heap.size, k, none⟩ v)) := fun v => ⟨below_set HBL.out (Nat.le_refl _)⟩
      generalize a0[k] = b at *
      have hb256 := b.toNat_lt
      cases a1 with
      | true =>
        by_cases h1 : 97 ≤ b.toNat
        · by_cases h2 : b.toNat ≤ 122
          · have hu : foldB true b = b - 32 := by simp [foldB, Lx.up, h1, h2]
            have hsub : (b - 32).toNat = b.toNat - 32 := by rw [UInt8.toNat_sub_of_le b 32 (by show (32 : UInt8).toNat ≤ b.toNat; simp; omega)]; rfl
            have H1 := hst (b - 32) hu
            have hw : IntKind.u8.wrap ((b.toNat : Int) - 32) = (((b - 32).toNat : Nat) : Int) := by rw [IntKind.wrap_u8, hsub]; omega
            have i1 : (97 : Int) ≤ (b.toNat : Int) := by omega
            have i2 : (b.toNat : Int) ≤ 122 := by omega
            clear hst hno HC hu hsub
            generalize (b - 32).toNat = bn at *
            go_wp2
            go_roundg gk
            case measure => omega
            case rel => exact ⟨k + 1, by omega, by first | rfl | simp, H1, hfs _, hbs _⟩
          · have H1 := hno (by simp [foldB, Lx.up, h2])
            have i1 : (97 : Int) ≤ (b.toNat : Int) := by omega
            have i2 : ¬ (b.toNat : Int) ≤ 122 := by omega
            clear hst hno HC
            go_wp2
            go_roundg gk
            case measure => omega
            case rel => exact ⟨k + 1, by omega, by first | rfl | simp, H1, HF, HBL⟩
        · have H1 := hno (by simp [foldB, Lx.up, h1])
          have i1 : ¬ (97 : Int) ≤ (b.toNat : Int) := by omega
          clear hst hno HC
          go_wp2
          go_roundg gk
          case measure => omega
          case rel => exact ⟨k + 1, by omega, by first | rfl | simp, H1, HF, HBL⟩
      | false =>
        by_cases h1 : 65 ≤ b.toNat
        · by_cases h2 : b.toNat ≤ 90
          · have hu : foldB false b = b + 32 := by simp [foldB, Lx.low, h1, h2]
            have hsub : (b + 32).toNat = b.toNat + 32 := by rw [UInt8.toNat_add]; show (b.toNat + 32) % 256 = _; omega
            have H1 := hst (b + 32) hu
            have hw : IntKind.u8.wrap ((b.toNat : Int) + 32) = (((b + 32).toNat : Nat) : Int) := by rw [IntKind.wrap_u8, hsub]; omega
            have i1 : (65 : Int) ≤ (b.toNat : Int) := by omega
            have i2 : (b.toNat : Int) ≤ 90 := by omega
            clear hst hno HC hu hsub
            generalize (b + 32).toNat = bn at *
            go_wp2
            go_roundg gk
            case measure => omega
            case rel => exact ⟨k + 1, by omega, by first | rfl | simp, H1, hfs _, hbs _⟩
          · have H1 := hno (by simp [foldB, Lx.low, h2])
            have i1 : (65 : Int) ≤ (b.toNat : Int) := by omega
            have i2 : ¬ (b.toNat : Int) ≤ 90 := by omega
            clear hst hno HC
            go_wp2
            go_roundg gk
            case measure => omega
            case rel => exact ⟨k + 1, by omega, by first | rfl | simp, H1, HF, HBL⟩
        · have H1 := hno (by simp [foldB, Lx.low, h1])
          have i1 : ¬ (65 : Int) ≤ (b.toNat : Int) := by omega
          clear hst hno HC
          go_wp2
          go_roundg gk
          case measure => omega
          case rel => exact ⟨k + 1, by omega, by first | rfl | simp, H1, HF, HBL⟩
end Go.Proofs.YthgfdnffnbclpaaGreatDoor.PAll

namespace Go.Proofs.YthgfdnffnbclpaaGreatDoor.PAll
open Go.RowKit Go.Proofs.YthgfdnffnbclpaaGreatDoorW.PrintWords Go.Proofs.YthgfdnffnbclpaaGreatDoorW.PrintLast Go.Proofs.YthgfdnffnbclpaaGreatDoorW.PrintMore

def findP (nm : ByteArray) : Nat → List S49 → Int
  | _, [] => -1
  | i, t :: r => if t.f0.toList = nm.toList then (i : Int) else findP nm (i + 1) r

theorem hasName_walk (nm0 nm : ByteArray) (A1 : Option Addr) (n1 c1 : Nat) (A2 : Option Addr) (n2 c2 : Nat) (A3 : Option Addr) (n3 c3 : Nat) (A4 : Option Addr) (n4 c4 : Nat) (ad : Addr) (w : World) (hx : w.cell? ad = some (.string nm)) :
    Calls Tryz.prog 83 #[.agg #[.string nm0, .slice A1 n1 c1, .slice A2 n2 c2, .slice A3 n3 c3, .slice A4 n4 c4], .pointer (some ad)] w fun e w' => e = .returned (.bool (nm0.toList == nm.toList)) ∧ Below w.heap.size w w' := by
  have hx2 : ∀ o, (w.alloc o).cell? ad = some (.string nm) := fun o => cell_al o hx
  go_enter Tryz.func83, Tryz.ntmps83
  go_wp2
  go_ret
  exact ⟨rfl, (Below.refl _ _).alloc (Nat.le_refl _) _⟩

set_option maxRecDepth 100000 in
theorem idxName_walk (A : Option Addr) (c : Nat) (l : List S49) (nm : ByteArray) (ad : Addr) (w : World) (hC : Kd.C k49 w A l.length l) (hc : l.length ≤ c) (hx : w.cell? ad = some (.string nm)) :
    Calls Tryz.prog 82 #[.slice A l.length c, .func (.func 83) #[] #[.pointer (some ad)]] w fun e w' => e = .returned (.int .i64 (findP nm 0 l)) ∧ Below w.heap.size w w' := by
  have HC := Aside0.mk hC
  have HX := Aside0.mk hx
  have HB0 := Aside0.mk (Below.refl w.heap.size w)
  clear hC hx
  go_enter Tryz.func82, Tryz.ntmps82
  go_wp2
  go_loopg [8] l.length (fun gk v8 wx => ∃ (i : Nat), i + gk = l.length ∧ v8 = .int .i64 i ∧ Aside0 (Below w.heap.size w wx) ∧ Aside0 (findP nm 0 l = findP nm i (l.drop i)))
  case atStart => exact ⟨0, by omega, rfl, HB0, ⟨by simp⟩⟩
  case round =>
    clear HB0
    obtain ⟨i, hi, rfl, HW, HP⟩ := hrel
    cases gk with
    | zero =>
      have e : l.drop i = [] := List.drop_eq_nil_of_le (by omega)
      have hp := HP.out
      rw [e] at hp
      have hii : ¬ (i : Int) < (l.length : Int) := by omega
      go_wp2
      go_ret
      exact ⟨by first | rfl | (rw [hp]; rfl), HW.out⟩
    | succ gk =>
      have hlt : i < l.length := by omega
      have hii : (i : Int) < (l.length : Int) := by omega
      have hi0 : (0 : Int) ≤ (i : Int) := by omega
      have hdr : l.drop i = l[i] :: l.drop (i + 1) := List.drop_eq_getElem_cons hlt
      have hrd : rd_T49 l (i : Int) = l[i] := by unfold rd_T49; simp [List.getD, hlt]
      obtain ⟨ad2, A1, c1, A2, c2, A3, c3, A4, c4, hA, hx0, hx1, hx2, hx3, hx4, _⟩ := at_T49 HC.out (i : Int) hi0 hii
      cases hA
      rw [hrd] at hx0 hx1 hx2 hx3 hx4
      rw [Int.toNat_natCast] at hx0 hx1 hx2 hx3 hx4
      have hy0 := (HW.out.cell (World.block_lt_of_cell? w _ hx0)).trans hx0
      have hy1 := (HW.out.cell (World.block_lt_of_cell? w _ hx1)).trans hx1
      have hy2 := (HW.out.cell (World.block_lt_of_cell? w _ hx2)).trans hx2
      have hy3 := (HW.out.cell (World.block_lt_of_cell? w _ hx3)).trans hx3
      have hy4 := (HW.out.cell (World.block_lt_of_cell? w _ hx4)).trans hx4
      have hp := HP.out
      rw [hdr, findP] at hp
      generalize l[i] = x at *
      have hnm := (HW.out.cell (World.block_lt_of_cell? w _ HX.out)).trans HX.out
      have HN := Aside0.mk (hasName_walk x.f0 nm A1 x.f1.length c1 A2 x.f2.length c2 A3 x.f3.length c3 A4 x.f4.length c4 ad wr hnm)
      clear hx0 hx1 hx2 hx3 hx4 hnm
      by_cases hh : x.f0.toList = nm.toList
      · rw [if_pos hh] at hp
        have hb : (x.f0.toList == nm.toList) = true := beq_iff_eq.mpr hh
        have HN2 : Aside0 (Calls Tryz.prog 83 #[.agg #[.string x.f0, .slice A1 x.f1.length c1, .slice A2 x.f2.length c2, .slice A3 x.f3.length c3, .slice A4 x.f4.length c4], .pointer (some ad)] wr fun e w' => e = .returned (.bool true) ∧ Below wr.heap.size wr w') := ⟨by rw [← hb]; exact HN.out⟩
        clear hh HN hb
        go_wp2_with (go_at_call 83; refine HN2.out.mono ?_; rintro e w1 ⟨rfl, hb1⟩)
        go_ret
        exact ⟨by first | rfl | (rw [hp]; rfl), below_step HW.out hb1⟩
      · rw [if_neg hh] at hp
        have hb : (x.f0.toList == nm.toList) = false := beq_eq_false_iff_ne.mpr hh
        have HN2 : Aside0 (Calls Tryz.prog 83 #[.agg #[.string x.f0, .slice A1 x.f1.length c1, .slice A2 x.f2.length c2, .slice A3 x.f3.length c3, .slice A4 x.f4.length c4], .pointer (some ad)] wr fun e w' => e = .returned (.bool false) ∧ Below wr.heap.size wr w') := ⟨by rw [← hb]; exact HN.out⟩
        clear hh HN hb
        go_wp2_with (go_at_call 83; refine HN2.out.mono ?_; rintro e w1 ⟨rfl, hb1⟩)
        go_roundg gk
        case measure => omega
        case rel => exact ⟨i + 1, by omega, by first | rfl | (simp; done) | (have := HC.out.2.1; simp; unfold wrap64; omega), ⟨below_step HW.out hb1⟩, ⟨hp⟩⟩

def scheme_find.f (l : List S49) (nm : ByteArray) : Option Int := some (findP nm 0 l)
theorem scheme_find.calls (A0 : Option Addr) (c0 : Nat) (l0 : List S49) (a1 : ByteArray) (r : Int) (w : World) (hr0 : Kd.C k49 w A0 l0.length l0) (hc0 : l0.length ≤ c0) (h : scheme_find.f l0 a1 = some r) :
    Calls Tryz.prog 33 #[.slice A0 l0.length c0, .string a1] w fun e w' => e = .returned (.int .i64 r) ∧ Below w.heap.size w w' := by
  obtain rfl := Option.some.inj h
  have hbel : Below w.heap.size w (w.alloc (Obj.cells #[.string a1] 9)) := (Below.refl _ _).alloc (Nat.le_refl _) _
  have HI := Aside0.mk (idxName_walk A0 c0 l0 a1 ⟨w.heap.size, 0, none⟩ (w.alloc (Obj.cells #[.string a1] 9)) (Kd.C_below hr0 hbel) hc0 ((blk_cell (Go.Deep.blk_alloc_new w _) 0).trans rfl))
  have HB := Aside0.mk hbel
  clear hr0 h hbel
  go_enter Tryz.func33, Tryz.ntmps33
  go_wp2_with (go_at_call 82; refine HI.out.mono ?_; rintro e w1 ⟨rfl, hb1⟩)
  go_ret
  exact ⟨rfl, below_step HB.out hb1⟩
end Go.Proofs.YthgfdnffnbclpaaGreatDoor.PAll
namespace Go.Proofs.YthgfdnffnbclpaaGreatDoor.PAll
open Go.RowKit Go.Proofs.YthgfdnffnbclpaaGreatDoorW.PrintWords Go.Proofs.YthgfdnffnbclpaaGreatDoorW.PrintLast Go.Proofs.YthgfdnffnbclpaaGreatDoorW.PrintMore

/-- The round of the reference's validRef: columns from number i on. -/
def rrP (tc oc : List S78) (all key : List Int) : Nat → Nat → Option Bool
  | 0, _ => some true
  | g + 1, i => if rd all i < 0 then some false else if rd all i ≥ (tc.length : Int) then some false else if 0 ≤ rd key i ∧ rd key i < (oc.length : Int) then
      if (rd_T78 tc (rd all i)).f1 = (rd_T78 oc (rd key i)).f1 then (if rd all i ∈ all.take i then some false else rrP tc oc all key g (i + 1)) else some false
    else none
def refRefP (s : List S49) (n : Int) (cols : List Int) (t q : Int) : Option Bool :=
  if t < 0 then some false else if t ≥ n then some false else if q < 0 then some false else if q ≥ ((rd_T49 s t).f2.length : Int) then some false else
    if (cols.length : Int) = ((rd_L6 (rd_T49 s t).f2 q).length : Int) then rrP (rd_T49 s n).f1 (rd_T49 s t).f1 cols (rd_L6 (rd_T49 s t).f2 q) cols.length 0 else some false
theorem ret_n {a b : Int} (h : a = b) : Value.int .i64 a = Value.int .i64 b := by rw [h]
theorem drop_cons_rd {l : List Int} {i j : Nat} (h : j < i) (hi : i ≤ l.length) : (l.take i).drop j = rd l (j : Int) :: (l.take i).drop (j + 1) := by
  rw [List.drop_eq_getElem_cons (by rw [List.length_take]; omega)]
  congr 1
  unfold rd
  simp [List.getD, show j < l.length by omega]

set_option maxHeartbeats 4000000 in
set_option maxRecDepth 100000 in
theorem refRef_walk (A0 : Option Addr) (c0 : Nat) (s : List S49) (n : Int) (A2 : Option Addr) (c2 : Nat) (cols : List Int) (t q : Int) (r : Bool) (w : World) (hS : Kd.C k49 w A0 s.length s) (hc0 : s.length ≤ c0) (hn0 : 0 ≤ n) (hn1 : n < (s.length : Int))
    (hC : Kd.C (Kd.int .i64) w A2 cols.length cols) (hc2 : cols.length ≤ c2) (h : refRefP s n cols t q = some r) :
    Calls Tryz.prog 162 #[.slice A0 s.length c0, .int .i64 n, .agg #[.slice A2 cols.length c2, .int .i64 t, .int .i64 q]] w fun e w' => e = .returned (.bool r) ∧ Below w.heap.size w w' := by
  have HS := Aside0.mk hS
  have HC := Aside0.mk hC
  have HH := Aside0.mk h
  clear hS hC h
  go_enter Tryz.func162, Tryz.ntmps162
  go_wp2
  obtain ⟨B, hB⟩ : ∃ B, B = w.heap.size := ⟨_, rfl⟩
  obtain ⟨W1, hW1⟩ : ∃ W, W = w.alloc (Obj.cells #[Value.slice A2 cols.length c2, Value.int IntKind.i64 t, Value.int IntKind.i64 q] 75) := ⟨_, rfl⟩
  have hb5 : W1.heap[B]? = some (.cells #[Value.slice A2 cols.length c2, Value.int IntKind.i64 t, Value.int IntKind.i64 q] 75 (0, 0)) := by rw [hW1, hB]; exact Go.Deep.blk_alloc_new w _
  have hBW : Below w.heap.size w W1 := by rw [hW1]; exact (Below.refl _ _).alloc (Nat.le_refl _) _
  rw [← hW1, ← hB]
  clear hW1 hB
  have KB : Aside0 (∀ W, Below W1.heap.size W1 W → W.cell? ⟨B, 0, none⟩ = some (Value.slice A2 cols.length c2) ∧ W.cell? ⟨B, 1, none⟩ = some (Value.int IntKind.i64 t) ∧ W.cell? ⟨B, 2, none⟩ = some (Value.int IntKind.i64 q)) := ⟨fun W hW => by
    have h5 := (hW.block _ (blk_lt hb5)).trans hb5
    exact ⟨(blk_cell h5 0).trans rfl, (blk_cell h5 1).trans rfl, (blk_cell h5 2).trans rfl⟩⟩
  have HBW := Aside0.mk hBW
  clear hb5 hBW
  obtain ⟨c0_, c1_, c2_⟩ := KB.out W1 (Below.refl _ _)
  have h := HH.out
  unfold refRefP at h
  clear HH
  by_cases q1 : t < 0
  · rw [if_pos q1] at h
    obtain rfl := Option.some.inj h
    have d1 : decide (t < 0) = true := decide_eq_true q1
    clear h q1
    go_quiet (fail)
    go_wp2
    go_ret
    exact ⟨rfl, pw_below_drewN HBW.out _⟩
  rw [if_neg q1] at h
  have d1 : decide (t < 0) = false := decide_eq_false q1
  by_cases q2 : t ≥ n
  · rw [if_pos q2] at h
    obtain rfl := Option.some.inj h
    have d2 : decide (n ≤ t) = true := decide_eq_true q2
    clear h q1 q2
    go_quiet (fail)
    go_wp2
    go_ret
    exact ⟨rfl, pw_below_drewN HBW.out _⟩
  rw [if_neg q2] at h
  have d2 : decide (n ≤ t) = false := decide_eq_false q2
  by_cases q3 : q < 0
  · rw [if_pos q3] at h
    obtain rfl := Option.some.inj h
    have d3 : decide (q < 0) = true := decide_eq_true q3
    clear h q1 q2 q3
    go_quiet (fail)
    go_wp2
    go_ret
    exact ⟨rfl, pw_below_drewN HBW.out _⟩
  rw [if_neg q3] at h
  have d3 : decide (q < 0) = false := decide_eq_false q3
  have h1 : 0 ≤ t := by omega
  have h2 : t < (s.length : Int) := by omega
  obtain ⟨ad, A1, c1, A2_, c2_x, A3, c3, A4, c4, hA, hx0, hx1, hx2, hx3, hx4, g1, h1_, g2, h2_, g3, h3_, g4, h4_⟩ := at_T49 (Kd.C_below HS.out HBW.out) t h1 h2
  obtain ⟨an, N1, n1, N2, n2, N3, n3, N4, n4, hAn, hz0, hz1, hz2, hz3, hz4, m1, l1_, m2, l2_, m3, l3_, m4, l4_⟩ := at_T49 (Kd.C_below HS.out HBW.out) n hn0 hn1
  cases hA
  cases hAn
  clear hx0 hx3 hx4 g1 g2 g3 h3_ g4 h4_ hz0 hz2 hz3 hz4 m1 m2 l2_ m3 l3_ m4 l4_
  generalize rd_T49 s t = x at *
  generalize rd_T49 s n = y at *
  by_cases q4 : q ≥ (x.f2.length : Int)
  · rw [if_pos q4] at h
    obtain rfl := Option.some.inj h
    have d4 : decide ((x.f2.length : Int) ≤ q) = true := decide_eq_true q4
    clear h q1 q2 q3 q4
    go_quiet (fail)
    go_wp2
    go_ret
    exact ⟨rfl, pw_below_drewN HBW.out _⟩
  rw [if_neg q4] at h
  have d4 : decide ((x.f2.length : Int) ≤ q) = false := decide_eq_false q4
  have h3 : 0 ≤ q := by omega
  have h4 : q < (x.f2.length : Int) := by omega
  obtain ⟨ak, Ak, ck, hAk, hk, hck, hCk⟩ := at_L6 h2_ q h3 h4
  cases hAk
  clear h2_
  generalize rd_L6 x.f2 q = key at *
  have HK := Aside0.mk hCk
  have HO := Aside0.mk h1_
  have HT := Aside0.mk l1_
  have KX : Aside0 (∀ W, Below W1.heap.size W1 W → W.cell? ⟨(ad.add (t.toNat * 5)).block, (ad.add (t.toNat * 5)).off + 1, none⟩ = some (Value.slice A1 x.f1.length c1) ∧ W.cell? ⟨(ad.add (n.toNat * 5)).block, (ad.add (n.toNat * 5)).off + 1, none⟩ = some (Value.slice N1 y.f1.length n1)) := ⟨fun W hW =>
    ⟨(hW.cell (World.block_lt_of_cell? W1 _ hx1)).trans hx1, (hW.cell (World.block_lt_of_cell? W1 _ hz1)).trans hz1⟩⟩
  clear hx1 hz1 hCk h1_ l1_
  by_cases q5 : (cols.length : Int) = (key.length : Int)
  case neg =>
    rw [if_neg q5] at h
    obtain rfl := Option.some.inj h
    have e1 : ((cols.length : Int) == (key.length : Int)) = false := beq_eq_false_iff_ne.mpr q5
    have e2 : ((cols.length : Int) != (key.length : Int)) = true := by rw [bne, e1]; rfl
    clear h q1 q2 q3 q4 q5
    go_quiet (fail)
    go_wp2
    go_quiet (fail)
    go_wp2
    go_ret
    exact ⟨rfl, pw_below_drewN HBW.out _⟩
  rw [if_pos q5] at h
  have e1 : ((cols.length : Int) == (key.length : Int)) = true := beq_iff_eq.mpr q5
  have e2 : ((cols.length : Int) != (key.length : Int)) = false := by rw [bne, e1]; rfl
  have HP := Aside0.mk h
  have HE := Aside0.mk q5
  clear h q1 q2 q3 q4 q5
  go_quiet (fail)
  go_wp2
  go_quiet (fail)
  go_wp2
  go_loopg [8] cols.length (fun gk v8 wx => ∃ (i : Nat), i + gk = cols.length ∧ v8 = .int .i64 i ∧ Aside0 (Below W1.heap.size W1 wx) ∧ Aside0 (rrP y.f1 x.f1 cols key gk i = some r))
  case atStart => exact ⟨0, by omega, rfl, ⟨pw_below_drewN (Below.refl _ _) _⟩, HP⟩
  case round =>
    clear HP d1 d2 d3 d4 e1 e2 c0_ c1_ c2_ hx2 hk
    obtain ⟨i, hi, rfl, HW, HP⟩ := hrel
    obtain ⟨y0, y1, y2⟩ := KB.out wr HW.out
    cases gk with
    | zero =>
      have hp := HP.out
      rw [rrP] at hp
      obtain rfl := Option.some.inj hp
      have hii : ¬ (i : Int) < (cols.length : Int) := by omega
      clear hp HP
      go_wp2
      go_ret
      exact ⟨rfl, below_step HBW.out HW.out⟩
    | succ go =>
      have hii : (i : Int) < (cols.length : Int) := by omega
      have hi0 : (0 : Int) ≤ (i : Int) := by omega
      have hlen := HC.out.2.1
      obtain ⟨ac, hac, hxc⟩ := Kd.at_int HC.out (i : Int) hi0 hii
      cases hac
      have hik : (i : Int) < (key.length : Int) := by have := HE.out; omega
      obtain ⟨aq, haq, hxq⟩ := Kd.at_int HK.out (i : Int) hi0 hik
      cases haq
      rw [Int.toNat_natCast] at hxc hxq
      replace hxc := ((below_step HBW.out HW.out).cell (World.block_lt_of_cell? w _ hxc)).trans hxc
      replace hxq := (HW.out.cell (World.block_lt_of_cell? W1 _ hxq)).trans hxq
      obtain ⟨z1, z2⟩ := KX.out wr HW.out
      have hp := HP.out
      rw [rrP] at hp
      clear HP
      generalize hcc : rd cols (i : Int) = cc at *
      have HCC := Aside0.mk hcc
      clear hcc
      generalize rd key (i : Int) = kk at *
      by_cases q1 : cc < 0
      · rw [if_pos q1] at hp
        obtain rfl := Option.some.inj hp
        have d1 : decide (cc < 0) = true := decide_eq_true q1
        clear hp q1
        go_wp2
        go_quiet (fail)
        go_wp2
        go_ret
        exact ⟨rfl, pw_below_drewN (below_step HBW.out HW.out) _⟩
      rw [if_neg q1] at hp
      have d1 : decide (cc < 0) = false := decide_eq_false q1
      by_cases q2 : cc ≥ (y.f1.length : Int)
      · rw [if_pos q2] at hp
        obtain rfl := Option.some.inj hp
        have d2 : decide ((y.f1.length : Int) ≤ cc) = true := decide_eq_true q2
        clear hp q1 q2
        go_wp2
        go_quiet (fail)
        go_wp2
        go_ret
        exact ⟨rfl, pw_below_drewN (below_step HBW.out HW.out) _⟩
      rw [if_neg q2] at hp
      have d2 : decide ((y.f1.length : Int) ≤ cc) = false := decide_eq_false q2
      have n1_ : 0 ≤ cc := by omega
      have n2_ : cc < (y.f1.length : Int) := by omega
      by_cases q3 : 0 ≤ kk ∧ kk < (x.f1.length : Int)
      case neg => rw [if_neg q3] at hp; cases hp
      rw [if_pos q3] at hp
      obtain ⟨n3_, n4_⟩ := q3
      obtain ⟨a1, ha1, _, hk1, _⟩ := at_T78 (Kd.C_below HT.out HW.out) cc n1_ n2_
      cases ha1
      obtain ⟨a2, ha2, _, hk2, _⟩ := at_T78 (Kd.C_below HO.out HW.out) kk n3_ n4_
      cases ha2
      generalize (rd_T78 y.f1 cc).f1 = t1 at *
      generalize (rd_T78 x.f1 kk).f1 = t2 at *
      by_cases q4 : t1 = t2
      case neg =>
        rw [if_neg q4] at hp
        obtain rfl := Option.some.inj hp
        have e1 : (t1 == t2) = false := beq_eq_false_iff_ne.mpr q4
        have e2 : (t1 != t2) = true := by rw [bne, e1]; rfl
        clear hp q1 q2 q4
        go_wp2
        go_quiet (fail)
        go_wp2
        go_ret
        exact ⟨rfl, pw_below_drewN (below_step HBW.out HW.out) _⟩
      rw [if_pos q4] at hp
      have e1 : (t1 == t2) = true := beq_iff_eq.mpr q4
      have e2 : (t1 != t2) = false := by rw [bne, e1]; rfl
      have HP := Aside0.mk hp
      clear hp q1 q2 q4
      go_wp2
      go_quiet (fail)
      go_wp2
      clear hk1 hk2 d1 d2 e1 e2 hxq z1 z2 y0 y1 y2 hii hik
      go_loopg [9] i (fun gj v9 wx => ∃ (j : Nat), j + gj = i ∧ v9 = .int .i64 j ∧ Aside0 (Below W1.heap.size W1 wx) ∧ Aside0 ((if cc ∈ (cols.take i).drop j then some false else rrP y.f1 x.f1 cols key go (i + 1)) = some r))
      case atStart => exact ⟨0, by omega, rfl, ⟨pw_below_drewN HW.out _⟩, HP⟩
      case round =>
        clear HW HP hxc
        obtain ⟨j, hj, rfl, HW, HP⟩ := hrel
        obtain ⟨y0, y1, y2⟩ := KB.out wr HW.out
        cases gk with
        | zero =>
          have e : (cols.take i).drop j = [] := List.drop_eq_nil_of_le (by rw [List.length_take]; omega)
          have hp := HP.out
          rw [e, if_neg (by simp)] at hp
          have HP2 := Aside0.mk hp
          have hjj : ¬ (j : Int) < (i : Int) := by omega
          clear hp HP e
          go_wp2
          go_roundg go
          case measure => omega
          case rel => exact ⟨i + 1, by omega, ret_n (by omega), HW, HP2⟩
        | succ gj =>
          have hjj : (j : Int) < (i : Int) := by omega
          have hj0 : (0 : Int) ≤ (j : Int) := by omega
          have hii : (i : Int) < (cols.length : Int) := by omega
          have hjl : (j : Int) < (cols.length : Int) := by omega
          obtain ⟨ac, hac, hxj⟩ := Kd.at_int HC.out (j : Int) hj0 hjl
          cases hac
          obtain ⟨ac, hac, hxi⟩ := Kd.at_int HC.out (i : Int) hi0 hii
          cases hac
          rw [HCC.out] at hxi
          rw [Int.toNat_natCast] at hxi hxj
          replace hxi := ((below_step HBW.out HW.out).cell (World.block_lt_of_cell? w _ hxi)).trans hxi
          replace hxj := ((below_step HBW.out HW.out).cell (World.block_lt_of_cell? w _ hxj)).trans hxj
          have hp := HP.out
          rw [drop_cons_rd (by omega) (by omega)] at hp
          clear HP
          generalize rd cols (j : Int) = cj at *
          by_cases q : cj = cc
          · rw [if_pos (by rw [q]; exact List.mem_cons_self)] at hp
            obtain rfl := Option.some.inj hp
            have e1 : (cj == cc) = true := beq_iff_eq.mpr q
            clear hp q
            go_wp2
            go_quiet (fail)
            go_wp2
            go_ret
            exact ⟨rfl, pw_below_drewN (below_step HBW.out HW.out) _⟩
          · have HP2 : Aside0 ((if cc ∈ (cols.take i).drop (j + 1) then some false else rrP y.f1 x.f1 cols key go (i + 1)) = some r) := ⟨by
              rw [← hp]
              have : (cc ∈ cj :: (cols.take i).drop (j + 1)) ↔ cc ∈ (cols.take i).drop (j + 1) := by
                rw [List.mem_cons]; constructor
                · rintro (h | h); exact absurd h.symm q; exact h
                · exact .inr
              by_cases hm : cc ∈ (cols.take i).drop (j + 1)
              · rw [if_pos hm, if_pos (this.2 hm)]
              · rw [if_neg hm, if_neg (fun h => hm (this.1 h))]⟩
            have e1 : (cj == cc) = false := beq_eq_false_iff_ne.mpr q
            clear hp q
            go_wp2
            go_quiet (fail)
            go_wp2
            go_roundg gj
            case measure => omega
            case rel => exact ⟨j + 1, by omega, ret_n (by omega), ⟨pw_below_drewN HW.out _⟩, HP2⟩
end Go.Proofs.YthgfdnffnbclpaaGreatDoor.PAll
