import Derived.Test.YthgfdnffnbclpaaGreatDoorXR03
import Derived.Test.YthgfdnffnbclpaaGreatDoorXR04
import Derived.RangeFuncNested
import Derived.RangeFuncBound
import Derived.RangeFuncCalls
import Derived.RangeFuncLeaves
import Derived.RangeFuncFrom
import Derived.RangeFuncBox
import Derived.Shelf.Abstract
import Derived.Shelf.RegionOpen
import Derived.OwnWalkIn
import Derived.TacticsInMore
import Derived.LoopNIn
import Derived.LoopIn
import Derived.Lib.ConvBytes
import Derived.Laws.IdiomStrings
set_option linter.unusedVariables false
set_option linter.unusedSimpArgs false
namespace Go.Proofs.YthgfdnffnbclpaaGreatDoor.PAll
open Go.RowKit Go.Proofs.YthgfdnffnbclpaaGreatDoorW.PrintWords Go.Proofs.YthgfdnffnbclpaaGreatDoorW.PrintLast Go.Proofs.YthgfdnffnbclpaaGreatDoorW.PrintMore
attribute [local go_sem] max2_int min2_int max_two min_two max_three min_three max_four min_four   -- for this text's walks alone

attribute [local go_sem] kwB_size
/-! ### jointerref02_IsKeyword: function 18 -/
mutual
def jointerref02_IsKeyword.l0 : Nat → ByteArray → Int → Option (Bool)
  | 0, _, _ => none
  | k + 1, x0, x3 => if x3 < (x0.size : Int) then (if 0 ≤ x3 then (if (bt x0 x3) < 65 then (some false) else (if (bt x0 x3) > 90 then (some false) else (jointerref02_IsKeyword.l0 k x0 (wrap64 (x3 + 1))))) else (none)) else (jointerref02_IsKeyword.l1 k x0 0)
def jointerref02_IsKeyword.l1 : Nat → ByteArray → Int → Option (Bool)
  | 0, _, _ => none
  | k + 1, x0, x4 => if (wrap64 ((wrap64 (x4 + (x0.size : Int))) + 2)) ≤ 372 then (if 0 ≤ x4 then (if x4 ≤ (wrap64 ((wrap64 (x4 + (x0.size : Int))) + 2)) then (if 1 + x0.size ≤ 9223372036854775807 then (if ((⟨#[32]⟩ : ByteArray) ++ x0).size + 1 ≤ 9223372036854775807 then (if (kwB.extract (x4 : Int).toNat ((wrap64 ((wrap64 (x4 + (x0.size : Int))) + 2)) : Int).toNat).toList = (((⟨#[32]⟩ : ByteArray) ++ x0) ++ (⟨#[32]⟩ : ByteArray)).toList then (some true) else (jointerref02_IsKeyword.l1 k x0 (wrap64 (x4 + 1)))) else (none)) else (none)) else (none)) else (none)) else (some false)
end
def jointerref02_IsKeyword.f (k : Nat) (a0 : ByteArray) : Option (Bool) := if a0.toList = ([] : List UInt8) then (some false) else (jointerref02_IsKeyword.l0 k a0 0)
theorem jointerref02_IsKeyword.mono_l : ∀ k, (∀ y0 y1, LeO (jointerref02_IsKeyword.l0 k y0 y1) (jointerref02_IsKeyword.l0 (k + 1) y0 y1)) ∧ (∀ y0 y1, LeO (jointerref02_IsKeyword.l1 k y0 y1) (jointerref02_IsKeyword.l1 (k + 1) y0 y1))
  | 0 => ⟨fun _ _ r h => by simp [jointerref02_IsKeyword.l0] at h, fun _ _ r h => by simp [jointerref02_IsKeyword.l1] at h⟩
  | k + 1 => by
    obtain ⟨ih0, ih1⟩ := jointerref02_IsKeyword.mono_l k
    refine ⟨?_, ?_⟩
    · intro y0 y1
      unfold jointerref02_IsKeyword.l0
      repeat' first
      | (with_reducible exact ih0 _ _)
      | (with_reducible exact ih1 _ _)
      | (with_reducible exact LeO.refl _)
      | (with_reducible exact LeO.none _)
      | (with_reducible refine LeO.ite ?_ ?_)
      | (with_reducible refine LeO.bind ?_ (fun _ => ?_))
      | exact ih0 _ _
      | exact ih1 _ _
      | exact LeO.none _
      | refine LeO.ite ?_ ?_
      | refine LeO.bind ?_ (fun _ => ?_)
    · intro y0 y1
      unfold jointerref02_IsKeyword.l1
      repeat' first
      | (with_reducible exact ih0 _ _)
      | (with_reducible exact ih1 _ _)
      | (with_reducible exact LeO.refl _)
      | (with_reducible exact LeO.none _)
      | (with_reducible refine LeO.ite ?_ ?_)
      | (with_reducible refine LeO.bind ?_ (fun _ => ?_))
      | exact ih0 _ _
      | exact ih1 _ _
      | exact LeO.none _
      | refine LeO.ite ?_ ?_
      | refine LeO.bind ?_ (fun _ => ?_)
theorem jointerref02_IsKeyword.mono : ∀ a0 k, LeO (jointerref02_IsKeyword.f k a0) (jointerref02_IsKeyword.f (k + 1) a0) := by
  intro a0 k
  obtain ⟨ih0, ih1⟩ := jointerref02_IsKeyword.mono_l k
  unfold jointerref02_IsKeyword.f
  repeat' first
      | (with_reducible exact ih0 _ _)
      | (with_reducible exact ih1 _ _)
      | (with_reducible exact LeO.refl _)
      | (with_reducible exact LeO.none _)
      | (with_reducible refine LeO.ite ?_ ?_)
      | (with_reducible refine LeO.bind ?_ (fun _ => ?_))
      | exact ih0 _ _
      | exact ih1 _ _
      | exact LeO.none _
      | refine LeO.ite ?_ ?_
      | refine LeO.bind ?_ (fun _ => ?_)
set_option maxHeartbeats 8000000 in
set_option maxRecDepth 100000 in
theorem jointerref02_IsKeyword.calls (k : Nat) (a0 : ByteArray) (r : Bool) (w : World) (h : jointerref02_IsKeyword.f k a0 = some r) :
    Calls Tryz.prog 98 #[.string a0] w fun e w' => e = .returned (.bool r) ∧ Drawn0 w w' := by
  have H : (if a0.toList = ([] : List UInt8) then (some false) else (jointerref02_IsKeyword.l0 k a0 0)) = some r := h
  clear h
  by_cases c2 : a0.toList = ([] : List UInt8)
  · rw [if_pos c2] at H
    have c2b0 : (a0.toList == ([] : List UInt8)) = true := beq_iff_eq.mpr c2
    have c2b1 : (a0.toList != ([] : List UInt8)) = false := bne_eq_false_iff_eq.mpr c2
    clear c2
    obtain rfl := Option.some.inj H
    go_enter Tryz.func98, Tryz.ntmps98
    simp only [kwB_eq]
    go_wp2
    go_ret
    exact ⟨by first | rfl | (simp; done) | (simp [*]; done), by repeat (first | exact Drawn0.refl _ | apply Drawn0.step)⟩
  · rw [if_neg c2] at H
    have c2b0 : (a0.toList == ([] : List UInt8)) = false := beq_eq_false_iff_ne.mpr c2
    have c2b1 : (a0.toList != ([] : List UInt8)) = true := bne_iff_ne.mpr c2
    have H' := Aside0.mk H
    clear H
    go_enter Tryz.func98, Tryz.ntmps98
    simp only [kwB_eq]
    go_wp2
    go_loopg [3] k (fun kq v3 w' => ∃ (x3_1 : Int), v3 = .int .i64 x3_1 ∧ Aside0 (jointerref02_IsKeyword.l0 kq a0 x3_1 = some r) ∧ Aside0 (kq ≤ k) ∧ Drawn0 w w')
    case atStart => exact ⟨(0), (by first | rfl | (simp; done) | (simp [*]; done)), H', ⟨Nat.le_refl _⟩, by repeat (first | exact Drawn0.refl _ | apply Drawn0.step)⟩
    case round =>
      clear H'
      try clear c1
      try clear c2
      try clear c2b0
      try clear c2b1
      try clear p2
      obtain ⟨x3_1, rfl, HA, HK1, ⟨m1, rfl⟩⟩ := hrel
      cases gk with
      | zero => exact absurd HA.out (by simp [jointerref02_IsKeyword.l0])
      | succ k1 =>
        have H := HA.out
        clear HA
        simp only [jointerref02_IsKeyword.l0] at H
        by_cases c3 : x3_1 < (a0.size : Int)
        · rw [if_pos c3] at H
          have c3b0 : decide (x3_1 < (a0.size : Int)) = true := decide_eq_true c3
          clear c3
          by_cases c4 : 0 ≤ x3_1
          · rw [if_pos c4] at H
            have c4b0 : decide (0 ≤ x3_1) = true := decide_eq_true c4
            clear c4
            by_cases c6 : (bt a0 x3_1) < 65
            · rw [if_pos c6] at H
              have c6b0 : decide ((bt a0 x3_1) < 65) = true := decide_eq_true c6
              clear c6
              obtain rfl := Option.some.inj H
              have p5 : 0 ≤ (x3_1 : Int) := of_decide_eq_true (by first | (with_reducible assumption) | assumption)
              have q5 : x3_1 < (a0.size : Int) := of_decide_eq_true (by first | (with_reducible assumption) | assumption)
              have hx5 := bt_at a0 x3_1
              replace p5 := eq_true p5
              replace q5 := eq_true q5
              go_wp2
              go_ret
              exact ⟨by first | rfl | (simp; done) | (simp [*]; done), by repeat (first | exact Drawn0.refl _ | apply Drawn0.step)⟩
            · rw [if_neg c6] at H
              have c6b0 : decide ((bt a0 x3_1) < 65) = false := decide_eq_false c6
              clear c6
              by_cases c8 : (bt a0 x3_1) > 90
              · rw [if_pos c8] at H
                have c8b0 : decide (90 < (bt a0 x3_1)) = true := decide_eq_true c8
                clear c8
                obtain rfl := Option.some.inj H
                have p5 : 0 ≤ (x3_1 : Int) := of_decide_eq_true (by first | (with_reducible assumption) | assumption)
                have q5 : x3_1 < (a0.size : Int) := of_decide_eq_true (by first | (with_reducible assumption) | assumption)
                have hx5 := bt_at a0 x3_1
                replace p5 := eq_true p5
                replace q5 := eq_true q5
                have p7 : 0 ≤ (x3_1 : Int) := of_decide_eq_true (by first | (with_reducible assumption) | assumption)
                have q7 : x3_1 < (a0.size : Int) := of_decide_eq_true (by first | (with_reducible assumption) | assumption)
                have hx7 := bt_at a0 x3_1
                replace p7 := eq_true p7
                replace q7 := eq_true q7
                go_wp2
                go_ret
                exact ⟨by first | rfl | (simp; done) | (simp [*]; done), by repeat (first | exact Drawn0.refl _ | apply Drawn0.step)⟩
              · rw [if_neg c8] at H
                have c8b0 : decide (90 < (bt a0 x3_1)) = false := decide_eq_false c8
                clear c8
                have H' := Aside0.mk H
                clear H
                have p5 : 0 ≤ (x3_1 : Int) := of_decide_eq_true (by first | (with_reducible assumption) | assumption)
                have q5 : x3_1 < (a0.size : Int) := of_decide_eq_true (by first | (with_reducible assumption) | assumption)
                have hx5 := bt_at a0 x3_1
                replace p5 := eq_true p5
                replace q5 := eq_true q5
                have p7 : 0 ≤ (x3_1 : Int) := of_decide_eq_true (by first | (with_reducible assumption) | assumption)
                have q7 : x3_1 < (a0.size : Int) := of_decide_eq_true (by first | (with_reducible assumption) | assumption)
                have hx7 := bt_at a0 x3_1
                replace p7 := eq_true p7
                replace q7 := eq_true q7
                go_wp2
                go_roundg k1
                case measure => have := HK1.out; omega
                case rel => exact ⟨(wrap64 (x3_1 + 1)), (by first | rfl | (simp; done) | (simp [*]; done)), H', ⟨by have := HK1.out; omega⟩, by repeat (first | exact Drawn0.refl _ | apply Drawn0.step)⟩
          · rw [if_neg c4] at H
            exact absurd H (by simp)
        · rw [if_neg c3] at H
          have c3b0 : decide (x3_1 < (a0.size : Int)) = false := decide_eq_false c3
          clear c3
          have H' := Aside0.mk H
          clear H
          go_wp2
          go_loopg [4] k1 (fun kq v4 w' => ∃ (x4_2 : Int), v4 = .int .i64 x4_2 ∧ Aside0 (jointerref02_IsKeyword.l1 kq a0 x4_2 = some r) ∧ Aside0 (kq ≤ k1) ∧ Drawn0 w w')
          case atStart => exact ⟨(0), (by first | rfl | (simp; done) | (simp [*]; done)), H', ⟨Nat.le_refl _⟩, by repeat (first | exact Drawn0.refl _ | apply Drawn0.step)⟩
          case round =>
            clear H'
            try clear c1
            try clear c2
            try clear c2b0
            try clear c2b1
            try clear p2
            try clear c3
            try clear c3b0
            try clear c4
            try clear c4b0
            try clear p5
            try clear q5
            try clear hx5
            try clear c6
            try clear c6b0
            try clear p6
            try clear p7
            try clear q7
            try clear hx7
            try clear c8
            try clear c8b0
            try clear p2
            try clear p5
            try clear p7
            try clear q5
            try clear q7
            obtain ⟨x4_2, rfl, HA, HK2, ⟨m2, rfl⟩⟩ := hrel
            cases gk with
            | zero => exact absurd HA.out (by simp [jointerref02_IsKeyword.l1])
            | succ k2 =>
              have H := HA.out
              clear HA
              simp only [jointerref02_IsKeyword.l1] at H
              by_cases c9 : (wrap64 ((wrap64 (x4_2 + (a0.size : Int))) + 2)) ≤ 372
              · rw [if_pos c9] at H
                have c9b0 : decide ((wrap64 ((wrap64 (x4_2 + (a0.size : Int))) + 2)) ≤ 372) = true := decide_eq_true c9
                clear c9
                by_cases c10 : 0 ≤ x4_2
                · rw [if_pos c10] at H
                  have c10b0 := eq_true c10
                  have c10b1 : decide (0 ≤ x4_2) = true := decide_eq_true c10
                  clear c10
                  by_cases c11 : x4_2 ≤ (wrap64 ((wrap64 (x4_2 + (a0.size : Int))) + 2))
                  · rw [if_pos c11] at H
                    have c11b0 := eq_true c11
                    have c11b1 : decide (x4_2 ≤ (wrap64 ((wrap64 (x4_2 + (a0.size : Int))) + 2))) = true := decide_eq_true c11
                    have c12b0 := eq_true (of_decide_eq_true (by first | (with_reducible assumption) | assumption) : (wrap64 ((wrap64 (x4_2 + (a0.size : Int))) + 2)) ≤ 372)
                    by_cases c13 : 1 + a0.size ≤ 9223372036854775807
                    · rw [if_pos c13] at H
                      have c13b0 := eq_true c13
                      have c13b1 : decide (1 + a0.size ≤ 9223372036854775807) = true := decide_eq_true c13
                      try have c13b2 : (9223372036854775807 < 1 + a0.size) = False := eq_false (Nat.not_lt.2 c13)
                      by_cases c14 : ((⟨#[32]⟩ : ByteArray) ++ a0).size + 1 ≤ 9223372036854775807
                      · rw [if_pos c14] at H
                        have c14b0 := eq_true c14
                        have c14x : 1 + a0.size + 1 ≤ 9223372036854775807 := by have h0 := c14; rw [ByteArray.size_append] at h0; exact h0
                        have c14b8 : decide (1 + a0.size + 1 ≤ 9223372036854775807) = true := decide_eq_true c14x
                        have c14b9 : (9223372036854775807 < 1 + a0.size + 1) = False := eq_false (Nat.not_lt.2 c14x)
                        have c14b7 := eq_true c14x
                        have c14b1 : decide (((⟨#[32]⟩ : ByteArray) ++ a0).size + 1 ≤ 9223372036854775807) = true := decide_eq_true c14
                        try have c14b2 : (9223372036854775807 < ((⟨#[32]⟩ : ByteArray) ++ a0).size + 1) = False := eq_false (Nat.not_lt.2 c14)
                        by_cases c15 : (kwB.extract (x4_2 : Int).toNat ((wrap64 ((wrap64 (x4_2 + (a0.size : Int))) + 2)) : Int).toNat).toList = (((⟨#[32]⟩ : ByteArray) ++ a0) ++ (⟨#[32]⟩ : ByteArray)).toList
                        · rw [if_pos c15] at H
                          have c15b0 : ((kwB.extract (x4_2 : Int).toNat ((wrap64 ((wrap64 (x4_2 + (a0.size : Int))) + 2)) : Int).toNat).toList == (((⟨#[32]⟩ : ByteArray) ++ a0) ++ (⟨#[32]⟩ : ByteArray)).toList) = true := beq_iff_eq.mpr c15
                          have c15b1 : ((kwB.extract (x4_2 : Int).toNat ((wrap64 ((wrap64 (x4_2 + (a0.size : Int))) + 2)) : Int).toNat).toList != (((⟨#[32]⟩ : ByteArray) ++ a0) ++ (⟨#[32]⟩ : ByteArray)).toList) = false := bne_eq_false_iff_eq.mpr c15
                          clear c15
                          obtain rfl := Option.some.inj H
                          go_wp2
                          go_ret
                          exact ⟨by first | rfl | (simp; done) | (simp [*]; done), by repeat (first | exact Drawn0.refl _ | apply Drawn0.step)⟩
                        · rw [if_neg c15] at H
                          have c15b0 : ((kwB.extract (x4_2 : Int).toNat ((wrap64 ((wrap64 (x4_2 + (a0.size : Int))) + 2)) : Int).toNat).toList == (((⟨#[32]⟩ : ByteArray) ++ a0) ++ (⟨#[32]⟩ : ByteArray)).toList) = false := beq_eq_false_iff_ne.mpr c15
                          have c15b1 : ((kwB.extract (x4_2 : Int).toNat ((wrap64 ((wrap64 (x4_2 + (a0.size : Int))) + 2)) : Int).toNat).toList != (((⟨#[32]⟩ : ByteArray) ++ a0) ++ (⟨#[32]⟩ : ByteArray)).toList) = true := bne_iff_ne.mpr c15
                          have H' := Aside0.mk H
                          clear H
                          go_wp2
                          go_roundg k2
                          case measure => have := HK1.out; have := HK2.out; omega
                          case rel => exact ⟨(wrap64 (x4_2 + 1)), (by first | rfl | (simp; done) | (simp [*]; done)), H', ⟨by have := HK1.out; have := HK2.out; omega⟩, by repeat (first | exact Drawn0.refl _ | apply Drawn0.step)⟩
                      · rw [if_neg c14] at H
                        exact absurd H (by simp)
                    · rw [if_neg c13] at H
                      exact absurd H (by simp)
                  · rw [if_neg c11] at H
                    exact absurd H (by simp)
                · rw [if_neg c10] at H
                  exact absurd H (by simp)
              · rw [if_neg c9] at H
                have c9b0 : decide ((wrap64 ((wrap64 (x4_2 + (a0.size : Int))) + 2)) ≤ 372) = false := decide_eq_false c9
                clear c9
                obtain rfl := Option.some.inj H
                go_wp2
                go_ret
                exact ⟨by first | rfl | (simp; done) | (simp [*]; done), by repeat (first | exact Drawn0.refl _ | apply Drawn0.step)⟩

end Go.Proofs.YthgfdnffnbclpaaGreatDoor.PAll
namespace Go.Proofs.YthgfdnffnbclpaaGreatDoor.PAll
open Go.RowKit Go.Shelf Go.Proofs.YthgfdnffnbclpaaGreatDoorW.PrintWords Go.Proofs.YthgfdnffnbclpaaGreatDoorW.PrintLast Go.Proofs.YthgfdnffnbclpaaGreatDoorW.PrintMore
attribute [local go_sem] Oper.semAt_some

def spB (c : UInt8) : Bool := decide (c.toNat = 9 ∨ c.toNat = 10 ∨ c.toNat = 11 ∨ c.toNat = 12 ∨ c.toNat = 13 ∨ c.toNat = 32)
/-- The pieces between blanks, a piece being under way. -/
def flds : List UInt8 → List UInt8 → List (List UInt8)
  | acc, [] => if acc = [] then [] else [acc]
  | acc, c :: r => if spB c = true then (if acc = [] then flds [] r else acc :: flds [] r) else flds (acc ++ [c]) r
def pieces (s : ByteArray) : List ByteArray := (flds [] s.data.toList).map fun b => ⟨b.toArray⟩

/-- What a round keeps: what lies below a block, and the block of the iterator's own text. -/
def KpF (n₀ Bs : Nat) (A B : World) : Prop := Below n₀ A B ∧ B.heap[Bs]? = A.heap[Bs]?
theorem KpF.trans {n₀ Bs : Nat} {A B C : World} (h : KpF n₀ Bs A B) (k : KpF n₀ Bs B C) : KpF n₀ Bs A C := ⟨h.1.trans k.1, k.2.trans h.2⟩
theorem KpF.refl (n₀ Bs : Nat) (A : World) : KpF n₀ Bs A A := ⟨Below.refl _ _, rfl⟩
theorem cell_same {A B : World} {b : Nat} (h : B.heap[b]? = A.heap[b]?) (j : Nat) : B.cell? ⟨b, j, none⟩ = A.cell? ⟨b, j, none⟩ := by simp [World.cell?, h]
theorem sdrop_at {s : ByteArray} {k : Nat} (h : k < s.size) : s.data.toList.drop k = s[k] :: s.data.toList.drop (k + 1) := by
  have h' : k < s.data.toList.length := by simpa using h
  rw [List.drop_eq_getElem_cons h']
  rfl
theorem extract_list (s : ByteArray) (a b : Nat) : s.extract a b = ⟨((s.data.toList.drop a).take (b - a)).toArray⟩ := by
  apply ByteArray.ext
  rw [ByteArray.data_extract]
  apply Array.toList_inj.mp
  simp

set_option maxRecDepth 100000 in
set_option maxHeartbeats 4000000 in
theorem fields1_in (F : Fence) (n : Nat) (h54 : F.fn 175) (hro : F.round = none) (hn : 1 ≤ n) (l Bs n₀ : Nat) (s : ByteArray) (hasc : ∀ b ∈ s.data.toList, b.toNat < 128) (hsz : s.size ≤ 4294967296) (J Jx : List ByteArray → World → Prop)
    (hY : ∀ pre x W, J pre W → pre.length < s.size + 1 → YieldAt F (n - 1) Tryz.prog l #[.string x] W fun e W' =>
      (e = .returned (.bool true) ∧ J (pre ++ [x]) W' ∧ KpF n₀ Bs W W') ∨ (e = .returned (.bool false) ∧ Jx (pre ++ [x]) W'))
    (W : World) (hBs : W.cell? ⟨Bs, 0, none⟩ = some (.string s)) (hT : ∀ c : Nat, c < 256 → W.cell? ⟨0, c, none⟩ = some (.int .u8 (if c = 9 ∨ c = 10 ∨ c = 11 ∨ c = 12 ∨ c = 13 ∨ c = 32 then 1 else 0))) (h0n : 0 < n₀) (h0 : J [] W) :
    CallsIn F n Tryz.prog 175 #[.func (.yield l) #[] #[], .pointer (some ⟨Bs, 0, none⟩)] W fun e W' => (∃ v, e = .returned v) ∧
      ((∃ ys, ys = pieces s ∧ J ys W') ∨ (∃ pre, pre <+: pieces s ∧ Jx pre W')) := by
  refine callsIn_of_wp Tryz.func175 rfl h54 ?_ hro
  simp only [Tryz.ntmps175, List.size_toArray, List.length_cons, List.length_nil, Nat.reduceAdd, Nat.reduceSub, Array.replicate_succ, Array.replicate_zero, List.push_toArray, List.append_toArray, List.nil_append, List.cons_append]
  gi_wp2
  gi_loopw [3, 4] (fun v3 v4 wr => ∃ (i : Nat) (pre : List ByteArray) (acc : List UInt8), v4 = .int .i64 i ∧ i ≤ s.size ∧ ((v3 = .int .i64 (-1) ∧ acc = []) ∨ ∃ st : Nat, v3 = .int .i64 st ∧ st < i ∧ acc = (s.data.toList.drop st).take (i - st)) ∧
      Aside0 (pieces s = pre ++ (flds acc (s.data.toList.drop i)).map (fun b => (⟨b.toArray⟩ : ByteArray))) ∧ pre.length ≤ i ∧ J pre wr ∧ KpF n₀ Bs W wr)
    (fun _ i _ => s.size - (intOf i).toNat)
  case atStart => exact ⟨0, [], [], rfl, Nat.zero_le _, .inl ⟨rfl, rfl⟩, ⟨rfl⟩, Nat.le_refl _, h0, KpF.refl _ _ _⟩
  case round =>
    obtain ⟨i, pre, acc, rfl, hi, hst, HF, hpl, hJs, hK⟩ := hrel
    have hs : wr.cell? ⟨Bs, 0, none⟩ = some (.string s) := (cell_same hK.2 0).trans hBs
    by_cases hlt : i < s.size
    · have hd := sdrop_at hlt
      have hc128 : s[i].toNat < 128 := hasc _ (by rw [← List.mem_toArray, Array.toArray_toList]; exact Array.getElem_mem _)
      have hcell : wr.cell? ⟨0, s[i].toNat, none⟩ = some (.int .u8 (if s[i].toNat = 9 ∨ s[i].toNat = 10 ∨ s[i].toNat = 11 ∨ s[i].toNat = 12 ∨ s[i].toNat = 13 ∨ s[i].toNat = 32 then 1 else 0)) := (hK.1.cell (p := ⟨0, s[i].toNat, none⟩) h0n).trans (hT _ (by omega))
      have hci : (↑s[i].toNat : Int) < 128 := by omega
      have hci0 : (0 : Int) ≤ (↑s[i].toNat : Int) := by omega
      by_cases hsp : s[i].toNat = 9 ∨ s[i].toNat = 10 ∨ s[i].toNat = 11 ∨ s[i].toNat = 12 ∨ s[i].toNat = 13 ∨ s[i].toNat = 32
      · rw [if_pos hsp] at hcell
        have hspB : spB s[i] = true := decide_eq_true hsp
        rcases hst with ⟨rfl, rfl⟩ | ⟨st, rfl, hst1, rfl⟩
        · have HF' : Aside0 (pieces s = pre ++ (flds [] (s.data.toList.drop (i + 1))).map (fun b => (⟨b.toArray⟩ : ByteArray))) := by
            have h1 := HF.out
            rw [hd, flds, if_pos hspB, if_pos rfl] at h1
            exact ⟨h1⟩
          clear HF hd hT hsp hspB
          gi_wp2
          go_roundw
          case rel => exact ⟨i + 1, pre, [], by first | rfl | simp, by omega, .inl ⟨rfl, rfl⟩, HF', by omega, hJs, hK⟩
          case measure => simp [intOf]; omega
        · have hne : (s.data.toList.drop st).take (i - st) ≠ [] := by
            intro e
            have := congrArg List.length e
            simp at this
            omega
          have hex : s.extract st i = ⟨((s.data.toList.drop st).take (i - st)).toArray⟩ := extract_list s st i
          have HF' : Aside0 (pieces s = (pre ++ [s.extract st i]) ++ (flds [] (s.data.toList.drop (i + 1))).map (fun b => (⟨b.toArray⟩ : ByteArray))) := by
            have h1 := HF.out
            rw [hd, flds, if_pos hspB, if_neg hne] at h1
            rw [h1, hex]
            exact ⟨by simp⟩
          obtain ⟨fn, tmps, assign, body, hy, hR⟩ := hY pre (s.extract st i) wr hJs (by omega)
          have j0 : (0 : Int) ≤ (st : Int) := by omega
          have j1 : (st : Int) ≤ (i : Int) := by omega
          have j2 : (i : Int) ≤ (s.size : Int) := by omega
          clear HF hd hT hsp hspB hne hex
          gi_wp2
          refine hR.mono ?_
          rintro e W3 (⟨rfl, hJ3, hk3⟩ | ⟨rfl, hJx3⟩)
          · gi_wp2
            go_roundw
            case rel => exact ⟨i + 1, pre ++ [s.extract st i], [], by first | rfl | simp, by omega, .inl ⟨rfl, rfl⟩, HF', by simp; omega, hJ3, hK.trans hk3⟩
            case measure => simp [intOf]; omega
          · gi_wp2
            refine bodyPost_ret (results_none rfl _ _ _) rfl ?_
            exact ⟨⟨_, rfl⟩, .inr ⟨_, ⟨_, HF'.out.symm⟩, hJx3⟩⟩
      · rw [if_neg hsp] at hcell
        have hspB : ¬ spB s[i] = true := by simpa [spB] using hsp
        rcases hst with ⟨rfl, rfl⟩ | ⟨st, rfl, hst1, rfl⟩
        · have hacc : [s[i]] = (s.data.toList.drop i).take (i + 1 - i) := by rw [hd]; simp
          have HF' : Aside0 (pieces s = pre ++ (flds ((s.data.toList.drop i).take (i + 1 - i)) (s.data.toList.drop (i + 1))).map (fun b => (⟨b.toArray⟩ : ByteArray))) := by
            have h1 := HF.out
            rw [hd, flds, if_neg hspB, List.nil_append] at h1
            rw [← hacc]
            exact ⟨h1⟩
          clear HF hd hT hsp hspB hacc
          gi_wp2
          go_roundw
          case rel => exact ⟨i + 1, pre, _, by first | rfl | simp, by omega, .inr ⟨i, rfl, by omega, rfl⟩, HF', by omega, hJs, hK⟩
          case measure => simp [intOf]; omega
        · have hacc : (s.data.toList.drop st).take (i - st) ++ [s[i]] = (s.data.toList.drop st).take (i + 1 - st) := by
            have e1 : i + 1 - st = (i - st) + 1 := by omega
            rw [e1, List.take_add_one]
            congr 1
            rw [List.getElem?_drop, show st + (i - st) = i by omega]
            have h' : i < s.data.toList.length := by simpa using hlt
            rw [List.getElem?_eq_getElem h']
            rfl
          have HF' : Aside0 (pieces s = pre ++ (flds ((s.data.toList.drop st).take (i + 1 - st)) (s.data.toList.drop (i + 1))).map (fun b => (⟨b.toArray⟩ : ByteArray))) := by
            have h1 := HF.out
            rw [hd, flds, if_neg hspB, hacc] at h1
            exact ⟨h1⟩
          have j0 : ¬ (st : Int) < 0 := by omega
          clear HF hd hT hsp hspB hacc
          gi_wp2
          go_roundw
          case rel => exact ⟨i + 1, pre, _, by first | rfl | simp, by omega, .inr ⟨st, rfl, by omega, rfl⟩, HF', by omega, hJs, hK⟩
          case measure => simp [intOf]; omega
    · obtain rfl : i = s.size := by omega
      have hnil : s.data.toList.drop s.size = [] := List.drop_eq_nil_of_le (by simp)
      rcases hst with ⟨rfl, rfl⟩ | ⟨st, rfl, hst1, rfl⟩
      · have HF' : Aside0 (pieces s = pre) := by
          have h1 := HF.out
          rw [hnil, flds, if_pos rfl] at h1
          exact ⟨by simpa using h1⟩
        clear HF
        gi_wp2
        go_end0
        exact ⟨⟨_, rfl⟩, .inl ⟨pre, HF'.out.symm, hJs⟩⟩
      · have hne : (s.data.toList.drop st).take (s.size - st) ≠ [] := by
          intro e
          have := congrArg List.length e
          simp at this
          omega
        have hex : s.extract st s.size = ⟨((s.data.toList.drop st).take (s.size - st)).toArray⟩ := extract_list s st s.size
        have HF' : Aside0 (pieces s = pre ++ [s.extract st s.size]) := by
          have h1 := HF.out
          rw [hnil, flds, if_neg hne] at h1
          rw [h1, hex]
          exact ⟨rfl⟩
        obtain ⟨fn, tmps, assign, body, hy, hR⟩ := hY pre (s.extract st s.size) wr hJs (by omega)
        have j0 : (0 : Int) ≤ (st : Int) := by omega
        have j2 : (st : Int) ≤ (s.size : Int) := by omega
        clear HF hnil hne hex hT
        gi_wp2
        refine hR.mono ?_
        rintro e W3 (⟨rfl, hJ3, hk3⟩ | ⟨rfl, hJx3⟩)
        · gi_wp2
          go_end0
          exact ⟨⟨_, rfl⟩, .inl ⟨_, HF'.out.symm, hJ3⟩⟩
        · gi_wp2
          go_end0
          exact ⟨⟨_, rfl⟩, .inr ⟨_, ⟨[], by rw [List.append_nil]; exact HF'.out.symm⟩, hJx3⟩⟩
end Go.Proofs.YthgfdnffnbclpaaGreatDoor.PAll
namespace Go.Proofs.YthgfdnffnbclpaaGreatDoor.PAll
open Go.RowKit Go.Shelf Go.Proofs.YthgfdnffnbclpaaGreatDoorW.PrintWords Go.Proofs.YthgfdnffnbclpaaGreatDoorW.PrintLast Go.Proofs.YthgfdnffnbclpaaGreatDoorW.PrintMore
attribute [local go_sem] Oper.semAt_some

theorem cell_new_b (W : World) (v : Value) (t : TypeId) : (W.alloc (.cells #[v] t)).cell? ⟨W.heap.size, 0, none⟩ = some v ∧ (W.alloc (.cells #[v] t)).frozen? ⟨W.heap.size, 0, none⟩ = false := by
  have h := World.alloc_heap_new W (.cells #[v] t)
  exact ⟨by unfold World.cell?; rw [h]; rfl, by unfold World.frozen?; rw [h]; rfl⟩
theorem cell_alloc_b {W : World} {a : Addr} {v : Value} (o : Obj) (h : W.cell? a = some v) : (W.alloc o).cell? a = some v := Go.cell_kept h (World.grownBy_alloc W o none) (fun r e => by cases e)
theorem frozen_alloc_b {W : World} {a : Addr} {v : Value} (o : Obj) (h : W.cell? a = some v) (hf : W.frozen? a = false) : (W.alloc o).frozen? a = false := (Go.frozen_kept h (World.grownBy_alloc W o none) (fun r e => by cases e)).trans hf

theorem KpF.t {n₀ Bs : Nat} {A B C : World} (h : KpF n₀ Bs A B) (k : KpF n₀ Bs B C) : KpF n₀ Bs A C := h.trans k
theorem KpF.b {n₀ Bs : Nat} {w : World} (h : n₀ ≤ w.heap.size) (hb : Bs < w.heap.size) : ∀ (W : World) (l : Nat) (o o' : Obj), w.heap.size ≤ l → W.heap[l]? = some o → o.isCells = false → o.isWalk = false → KpF n₀ Bs W (W.putObj l o') :=
  fun W l o o' hl ho hc hw => ⟨belowK_b h W l o o' hl ho hc hw, (grownBy_putObj' W l o').block Bs (by
    rcases Nat.lt_or_ge l W.heap.size with h1 | h1
    · omega
    · simp [Array.getElem?_eq_none h1] at ho) (fun e => by cases e; omega)⟩

theorem fields_stops (F : Fence) (n : Nat) (h54 : F.fn 175) (hro : F.round = none) (hn : 1 ≤ n) (Bs n₀ : Nat) (s : ByteArray) (hasc : ∀ b ∈ s.data.toList, b.toNat < 128) (hsz : s.size ≤ 4294967296) (w : World) (hB : Bs < w.heap.size) (hn₀ : n₀ ≤ w.heap.size) (h0n : 0 < n₀)
    (hc : w.cell? ⟨Bs, 0, none⟩ = some (.string s)) (hT : ∀ c : Nat, c < 256 → w.cell? ⟨0, c, none⟩ = some (.int .u8 (if c = 9 ∨ c = 10 ∨ c = 11 ∨ c = 12 ∨ c = 13 ∨ c = 32 then 1 else 0))) :
    SeqStopsK F n Tryz.prog 175 #[.pointer (some ⟨Bs, 0, none⟩)] (fun x : ByteArray => #[Value.string x]) (KpF n₀ Bs) (fun ys => ys = pieces s) (fun pre => pre <+: pieces s) (s.size + 1) w := fun l J Jx W hW _ _ hY h0 =>
  fields1_in F n h54 hro hn l Bs n₀ s hasc hsz J Jx hY W ((hW.cell (p := ⟨Bs, 0, none⟩) hB).trans hc) (fun c hcc => (hW.cell (p := ⟨0, c, none⟩) (by show 0 < w.heap.size; omega)).trans (hT c hcc)) h0n h0

set_option maxHeartbeats 1000000 in
theorem fields_mk (s : ByteArray) (w : World) :
    Calls Tryz.prog 149 #[.string s] w fun e w' => e = .returned (.func (.func 175) #[] #[.pointer (some ⟨w.heap.size, 0, none⟩)]) ∧ w' = w.alloc (.cells #[.string s] 9) := by
  go_enter Tryz.func149, Tryz.ntmps149
  go_wp2
  go_ret
  exact ⟨rfl, rfl⟩

theorem kw_pieces : flds [] kwM = kwsL := by decide +kernel
theorem kwC_list : kwC.data.toList = kwM := rfl
theorem mem_pieces (a : ByteArray) (s : ByteArray) : a ∈ pieces s ↔ a.data.toList ∈ flds [] s.data.toList := by
  unfold pieces
  rw [List.mem_map]
  constructor
  · rintro ⟨b, hb, rfl⟩; exact hb
  · intro h; exact ⟨_, h, by cases a; rfl⟩
theorem isKw_mem (a : ByteArray) : isKw a.data.toList = true ↔ a ∈ pieces kwC := by
  rw [mem_pieces, kwC_list, kw_pieces]
  unfold isKw
  exact List.contains_iff_mem

set_option maxRecDepth 100000 in
set_option maxHeartbeats 2000000 in
theorem isKeyword_walk (a0 : ByteArray) (w : World) (hL : LaidL w) :
    Calls Tryz.prog 108 #[.string a0] w fun e W' => e = .returned (.bool (isKw a0.data.toList)) ∧ Below w.heap.size w W' := by
  have hpos : 0 < w.heap.size := (World.block_lt_of_cell? w _ (hL.tab 0 (by decide)) : (⟨0, 0, none⟩ : Addr).block < w.heap.size)
  have hasc : ∀ b ∈ kwC.data.toList, b.toNat < 128 := by
    have : kwC.data.toList.all (fun b => decide (b.toNat < 128)) = true := by decide +kernel
    intro b hb
    exact of_decide_eq_true (List.all_eq_true.1 this b hb)
  refine (callsIn_wide (n := 6)).1 ?_
  refine callsIn_of_wp_marks Tryz.func108 rfl trivial ?_ rfl
  simp only [Tryz.ntmps108, List.size_toArray, List.length_cons, List.length_nil, Nat.reduceAdd, Nat.reduceSub, Array.replicate_succ, Array.replicate_zero, List.push_toArray, List.append_toArray, List.nil_append, List.cons_append]
  simp only [kwC_eq]
  gi_wp2_with (refine ⟨trivial, ?_⟩; gi_at_call 149; refine (callsIn_wide.2 (fields_mk kwC _)).mono ?_; rintro e w' ⟨rfl, rfl⟩)
  have c0 := cell_new_b w (.string a0) 9
  have c1 := cell_new_b (w.alloc (.cells #[.string a0] 9)) (.bool false) 4
  have c2 := cell_new_b ((w.alloc (.cells #[.string a0] 9)).alloc (.cells #[.bool false] 4)) (.string kwC) 9
  simp only [World.size_alloc] at c1 c2
  have hB0 : Below w.heap.size w (((w.alloc (.cells #[.string a0] 9)).alloc (.cells #[.bool false] 4)).alloc (.cells #[.string kwC] 9)) := (((Below.refl _ w).alloc (Nat.le_refl _) _).alloc (by simp) _).alloc (by simp; omega) _
  refine wpIn_rangeFunc_ownF rfl (by omega) (gf := 175) (lb := #[.pointer (some ⟨w.heap.size + 1 + 1, 0, none⟩)]) rfl trivial (enters_of Tryz.func175 (by kernel_rfl) rfl)
    (fields_stops Fence.wide (6 - 1) trivial rfl (by omega) (w.heap.size + 1 + 1) w.heap.size kwC hasc (by rw [kwC_size]; omega) _ (by simp) (by simp; omega) hpos c2.1 (fun c hc => (hB0.cell (p := ⟨0, c, none⟩) hpos).trans (hL.tab c hc))) (fun h k => KpF.t h k) (KpF.b (by simp; omega) (by simp)) (Below.refl _ _) (fun _ => rfl)
    (fun pre W => ((∀ y ∈ pre, y ≠ a0) ∧ W.cell? ⟨w.heap.size, 0, none⟩ = some (.string a0) ∧ W.cell? ⟨w.heap.size + 1, 0, none⟩ = some (.bool false) ∧ W.frozen? ⟨w.heap.size + 1, 0, none⟩ = false) ∧ Below w.heap.size w W)
    (fun c pre W => (c = .ret ∧ a0 ∈ pre ∧ W.cell? ⟨w.heap.size + 1, 0, none⟩ = some (.bool true)) ∧ Below w.heap.size w W)
    (OwnFrom.and (Own.from (fun s A B row hs hg hr => ⟨hs.1, Go.cell_kept hs.2.1 hg hr, Go.cell_kept hs.2.2.1 hg hr, (Go.frozen_kept hs.2.2.1 hg hr).trans hs.2.2.2⟩) _) (ownFrom_below (Nat.le_refl _) (by simp; omega)))
    (fun c => OwnFrom.and (Own.from (fun s A B row hs hg hr => ⟨hs.1, hs.2.1, Go.cell_kept hs.2.2 hg hr⟩) _) (ownFrom_below (Nat.le_refl _) (by simp; omega)))
    ⟨⟨by simp, cell_alloc_b _ (cell_alloc_b _ c0.1), cell_alloc_b _ c1.1, frozen_alloc_b _ c1.1 c1.2⟩, hB0⟩
    (fun x => { tmps := #[.string a0, .pointer (some ⟨w.heap.size, 0, none⟩), .pointer (some ⟨w.heap.size + 1, 0, none⟩), .string x, .func (.func 175) #[] #[.pointer (some ⟨w.heap.size + 1 + 1, 0, none⟩)], .string x, undef, undef, undef], defers := [] }) ?assign ?body ?done ?stop
  case assign =>
    intro l x W K hK
    gi_wp2
    exact hK
  case body =>
    rintro l pre x W ⟨⟨hp, hcw, hcr, hfr⟩, hB⟩ _
    gi_wp2
    · rename_i hx
      have hx' : x = a0 := by
        apply ByteArray.ext
        have e := hx
        first
          | (rw [beq_iff_eq] at e; rw [Lib.toList_data, Lib.toList_data] at e; exact Array.toList_inj.1 e)
          | (rw [Lib.toList_data, Lib.toList_data] at e; exact Array.toList_inj.1 e)
          | (subst e; rfl)
      subst hx'
      exact ⟨KeepsOthers.setCell _ _ _, ⟨rfl, List.mem_append.2 (.inr (by simp)), World.cell?_setCell_same' _ _ _ (by rw [hcr]; rfl)⟩, hB.setCell (p := ⟨w.heap.size + 1, 0, none⟩) (by simp) _⟩
    · rename_i hx
      have hx' : x ≠ a0 := by
        rintro rfl
        simp at hx
      exact ⟨KeepsOthers.refl _, KpF.refl _ _ _, ⟨fun y hy => (List.mem_append.1 hy).elim (hp y) (fun e e' => by simp at e; subst e; exact hx' e'), hcw, hcr, hfr⟩, hB⟩
  case done =>
    rintro D ys W hD rfl ⟨⟨hne, _, hcr, hfr⟩, hB⟩ hK
    have hk : isKw a0.data.toList = false := by
      rw [← Bool.not_eq_true, isKw_mem]
      intro h
      exact hne a0 h rfl
    gi_wp2
    have hK' := (KeepsOthers.setCell W ⟨w.heap.size + 1, 0, none⟩ (.bool false)).same D _ hK rfl
    refine ⟨by simp, .inl ⟨_, _, rfl, run_takeDeferred hK', ?_⟩⟩
    have hc5 := Go.cell_kept (World.cell?_setCell_same' W ⟨w.heap.size + 1, 0, none⟩ (.bool false) (by rw [hcr]; rfl)) (grownBy_putObj' _ D (.deferred none)) (fun r e => by cases e; exact ⟨_, hK', rfl⟩)
    refine ⟨.bool false, ?_, by rw [hk], (hB.setCell (p := ⟨w.heap.size + 1, 0, none⟩) (by simp) _).trans (belowK_b (w := w) (Nat.le_refl _) _ D _ _ (by simp at hD; omega) hK' rfl rfl)⟩
    simp [results, Tryz.f108, go_sem, hc5]
  case stop =>
    rintro D c pre W hD hpre ⟨⟨rfl, hin, hcr⟩, hB⟩ hK
    have hk : isKw a0.data.toList = true := (isKw_mem a0).2 (hpre.subset hin)
    gi_wp2
    refine ⟨by simp, .inl ⟨_, _, rfl, run_takeDeferred hK, ?_⟩⟩
    have hc5 := Go.cell_kept hcr (grownBy_putObj' _ D (.deferred none)) (fun r e => by cases e; exact ⟨_, hK, rfl⟩)
    refine ⟨.bool true, ?_, by rw [hk], hB.trans (belowK_b (w := w) (Nat.le_refl _) W D _ _ (by simp at hD; omega) hK rfl rfl)⟩
    simp [results, Tryz.f108, go_sem, hc5]
end Go.Proofs.YthgfdnffnbclpaaGreatDoor.PAll
namespace Go.Proofs.YthgfdnffnbclpaaGreatDoor.PAll
open Go.RowKit Go.Proofs.YthgfdnffnbclpaaGreatDoorW.PrintWords Go.Proofs.YthgfdnffnbclpaaGreatDoorW.PrintLast Go.Proofs.YthgfdnffnbclpaaGreatDoorW.PrintMore
def lex_IsKeyword.f (a0 : ByteArray) : Option (Bool) := some (isKw a0.data.toList)
theorem lex_IsKeyword.calls (a0 : ByteArray) (r : Bool) (w : World) (h : lex_IsKeyword.f a0 = some r) (hL : LaidL w) :
    Calls Tryz.prog 108 #[.string a0] w fun e w' => e = .returned (.bool r) ∧ Below w.heap.size w w' := by
  obtain rfl := Option.some.inj h
  exact isKeyword_walk a0 w hL
end Go.Proofs.YthgfdnffnbclpaaGreatDoor.PAll
namespace Go.Proofs.YthgfdnffnbclpaaGreatDoor.PAll
open Go.RowKit Go.Proofs.YthgfdnffnbclpaaGreatDoorW.PrintWords Go.Proofs.YthgfdnffnbclpaaGreatDoorW.PrintLast Go.Proofs.YthgfdnffnbclpaaGreatDoorW.PrintMore

def foldB (up : Bool) (b : UInt8) : UInt8 := if up = true then Lx.up b else Lx.low b
def jointerref02_folded.f (a0 : ByteArray) (a1 : Bool) : Option (ByteArray) := if a0.size ≤ 140737488355328 then some ⟨(a0.data.toList.map (foldB a1)).toArray⟩ else none

theorem sget {s : ByteArray} {k : Nat} (h : k < s.size) : s.data.toList[k]? = some s[k] := by
  have h' : k < s.data.toList.length := by simpa using h
  rw [List.getElem?_eq_getElem h']; rfl

set_option maxHeartbeats 8000000 in
set_option maxRecDepth 100000 in
theorem jointerref02_folded.calls (a0 : ByteArray) (a1 : Bool) (r : ByteArray) (w : World) (h : jointerref02_folded.f a0 a1 = some r) :
    Calls Tryz.prog 99 #[.string a0, .bool a1] w fun e w' => e = .returned (.string r) ∧ Below w.heap.size w w' := by
  unfold jointerref02_folded.f at h
  split at h
  case isFalse => cases h
  rename_i hs
  obtain rfl := Option.some.inj h
  clear h
  have hcv := Lib.run_convert_string_bytes (P := Tryz.prog) w 9 188 5 a0 Tryz.underlying9 Tryz.underlying188 Tryz.underlying5
  have hB : ∀ (j : Nat) (hj : j < a0.size), (Lib.bytesWorld w 5 a0).cell? ⟨w.heap.size, j, none⟩ = some (.int .u8 (if j < 0 then foldB a1 a0[j] else a0[j]).toNat) := by
    intro j hj
    rw [Lib.bytesWorld_cell w 5 a0 j hj, if_neg (by omega)]
    have := sget hj
    simp [List.getD, this]
  have hF : ∀ (j : Nat) (hj : j < a0.size), (Lib.bytesWorld w 5 a0).frozen? ⟨w.heap.size, j, none⟩ = false := by
    intro j hj
    have hz : a0.size ≤ (Lib.bytesCells w 5 a0).size := by simp [Lib.bytesCells]
    unfold World.frozen?
    rw [Lib.bytesWorld_at_new]
    simp
    omega
  have hbel : Below w.heap.size w (Lib.bytesWorld w 5 a0) := bytes_below (Below.refl _ _) (Nat.le_refl _) 5 a0
  generalize Lib.bytesWorld w 5 a0 = W1 at *
  generalize grownCap w a0.size 0 5 = cp at *
  have HB := Aside0.mk hB
  have HF := Aside0.mk hF
  have HBL := Aside0.mk hbel
  clear hB hF hbel
  go_enter Tryz.func99, Tryz.ntmps99
  go_wp2
  go_loopg [6] a0.size (fun gk v6 wx => ∃ k : Nat, k + gk = a0.size ∧ v6 = .int .i64 k ∧ Aside0 (∀ (j : Nat) (hj : j < a0.size), wx.cell? ⟨w.heap.size, j, none⟩ = some (.int .u8 (if j < k then foldB a1 a0[j] else a0[j]).toNat)) ∧ Aside0 (∀ (j : Nat) (hj : j < a0.size), wx.frozen? ⟨w.heap.size, j, none⟩ = false) ∧ Aside0 (Below w.heap.size w wx))
  case atStart => exact ⟨0, by omega, rfl, HB, HF, HBL⟩
  case round =>
    clear HB HF HBL hcv
    obtain ⟨k, hk, rfl, HC, HF, HBL⟩ := hrel
    cases gk with
    | zero =>
      have hcb := run_convert_bytes_back (P := Tryz.prog) wr 188 9 5 ⟨w.heap.size, 0, none⟩ cp (a0.data.toList.map (foldB a1)) Tryz.underlying188 Tryz.underlying5 Tryz.underlying9 (fun j hj => by
        have hj' : j < a0.size := by simpa using hj
        have := HC.out j hj'
        rw [if_pos (by omega)] at this
        have e := sget hj'
        have e2 : (a0.data.toList.map (foldB a1))[j] = foldB a1 a0[j] := by
          rw [List.getElem_map]
          congr 1
        rw [e2, show (⟨w.heap.size, 0, none⟩ : Addr).add j = ⟨w.heap.size, j, none⟩ from by by_cases h : j = 0 <;> simp [Addr.add, h]]
        exact this)
      rw [show (a0.data.toList.map (foldB a1)).length = a0.size by simp] at hcb
      generalize hRB : (⟨(a0.data.toList.map (foldB a1)).toArray⟩ : ByteArray) = RB at *
      go_wp2
      go_ret
      exact ⟨by rw [hRB]; rfl, HBL.out⟩
    | succ gk =>
      have hlt : k < a0.size := by omega
      have hc := HC.out k hlt
      rw [if_neg (by omega)] at hc
      have hf := HF.out k hlt
      have hki : (k : Int) < (a0.size : Int) := by omega
      have hki0 : (0 : Int) ≤ (k : Int) := by omega
      have hst : ∀ (u : UInt8), foldB a1 a0[k] = u → Aside0 (∀ (j : Nat) (hj : j < a0.size), (wr.setCell ⟨w.heap.size, k, none⟩ (.int .u8 u.toNat)).cell? ⟨w.heap.size, j, none⟩ = some (.int .u8 (if j < k + 1 then foldB a1 a0[j] else a0[j]).toNat)) := by
        intro u hu
        refine ⟨fun j hj => ?_⟩
        by_cases hjk : j = k
        · subst hjk
          rw [if_pos (by omega), World.cell?_setCell_same' wr _ _ (by rw [hc]; rfl), hu]
        · have hne : (⟨w.heap.size, k, none⟩ : Addr) ≠ ⟨w.heap.size, j, none⟩ := fun e => hjk (by injection e with _ e2; exact e2.symm)
          rw [show (wr.setCell ⟨w.heap.size, k, none⟩ (.int .u8 u.toNat)).cell? ⟨w.heap.size, j, none⟩ = wr.cell? ⟨w.heap.size, j, none⟩ from World.cell?_setCell_other _ _ _ _ hne, HC.out j hj]
          by_cases h1 : j < k
          · rw [if_pos h1, if_pos (by omega)]
          · rw [if_neg h1, if_neg (by omega)]
      have hno : foldB a1 a0[k] = a0[k] → Aside0 (∀ (j : Nat) (hj : j < a0.size), wr.cell? ⟨w.heap.size, j, none⟩ = some (.int .u8 (if j < k + 1 then foldB a1 a0[j] else a0[j]).toNat)) := by
        intro hu
        refine ⟨fun j hj => ?_⟩
        rw [HC.out j hj]
        by_cases h1 : j < k
        · rw [if_pos h1, if_pos (by omega)]
        · rw [if_neg h1]
          by_cases hjk : j = k
          · subst hjk; rw [if_pos (by omega), hu]
          · rw [if_neg (by omega)]
      have hfs : ∀ v, Aside0 (∀ (j : Nat) (hj : j < a0.size), (wr.setCell ⟨w.heap.size, k, none⟩ v).frozen? ⟨w.heap.size, j, none⟩ = false) := fun v => ⟨fun j hj => by rw [World.frozen?_setCell]; exact HF.out j hj⟩
      have hbs : ∀ v, Aside0 (Below w.heap.size w (wr.setCell ⟨w.heap.size, k, none⟩ v)) := fun v => ⟨below_set HBL.out (Nat.le_refl _)⟩
      generalize a0[k] = b at *
      have hb256 := b.toNat_lt
      cases a1 with
      | true =>
        by_cases h1 : 97 ≤ b.toNat
        · by_cases h2 : b.toNat ≤ 122
          · have hu : foldB true b = b - 32 := by simp [foldB, Lx.up, h1, h2]
            have hsub : (b - 32).toNat = b.toNat - 32 := by rw [UInt8.toNat_sub_of_le b 32 (by show (32 : UInt8).toNat ≤ b.toNat; simp; omega)]; rfl
            have H1 := hst (b - 32) hu
            have hw : IntKind.u8.wrap ((b.toNat : Int) - 32) = (((b - 32).toNat : Nat) : Int) := by rw [IntKind.wrap_u8, hsub]; omega
            have i1 : (97 : Int) ≤ (b.toNat : Int) := by omega
            have i2 : (b.toNat : Int) ≤ 122 := by omega
            clear hst hno HC hu hsub
            generalize (b - 32).toNat = bn at *
            go_wp2
            go_roundg gk
            case measure => omega
            case rel => exact ⟨k + 1, by omega, by first | rfl | simp, H1, hfs _, hbs _⟩
          · have H1 := hno (by simp [foldB, Lx.up, h2])
            have i1 : (97 : Int) ≤ (b.toNat : Int) := by omega
            have i2 : ¬ (b.toNat : Int) ≤ 122 := by omega
            clear hst hno HC
            go_wp2
            go_roundg gk
            case measure => omega
            case rel => exact ⟨k + 1, by omega, by first | rfl | simp, H1, HF, HBL⟩
        · have H1 := hno (by simp [foldB, Lx.up, h1])
          have i1 : ¬ (97 : Int) ≤ (b.toNat : Int) := by omega
          clear hst hno HC
          go_wp2
          go_roundg gk
          case measure => omega
          case rel => exact ⟨k + 1, by omega, by first | rfl | simp, H1, HF, HBL⟩
      | false =>
        by_cases h1 : 65 ≤ b.toNat
        · by_cases h2 : b.toNat ≤ 90
          · have hu : foldB false b = b + 32 := by simp [foldB, Lx.low, h1, h2]
            have hsub : (b + 32).toNat = b.toNat + 32 := by rw [UInt8.toNat_add]; show (b.toNat + 32) % 256 = _; omega
            have H1 := hst (b + 32) hu
            have hw : IntKind.u8.wrap ((b.toNat : Int) + 32) = (((b + 32).toNat : Nat) : Int) := by rw [IntKind.wrap_u8, hsub]; omega
            have i1 : (65 : Int) ≤ (b.toNat : Int) := by omega
            have i2 : (b.toNat : Int) ≤ 90 := by omega
            clear hst hno HC hu hsub
            generalize (b + 32).toNat = bn at *
            go_wp2
            go_roundg gk
            case measure => omega
            case rel => exact ⟨k + 1, by omega, by first | rfl | simp, H1, hfs _, hbs _⟩
          · have H1 := hno (by simp [foldB, Lx.low, h2])
            have i1 : (65 : Int) ≤ (b.toNat : Int) := by omega
            have i2 : ¬ (b.toNat : Int) ≤ 90 := by omega
            clear hst hno HC
            go_wp2
            go_roundg gk
            case measure => omega
            case rel => exact ⟨k + 1, by omega, by first | rfl | simp, H1, HF, HBL⟩
        · have H1 := hno (by simp [foldB, Lx.low, h1])
          have i1 : ¬ (65 : Int) ≤ (b.toNat : Int) := by omega
          clear hst hno HC
          go_wp2
          go_roundg gk
          case measure => omega
          case rel => exact ⟨k + 1, by omega, by first | rfl | simp, H1, HF, HBL⟩
end Go.Proofs.YthgfdnffnbclpaaGreatDoor.PAll

