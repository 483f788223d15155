/- value.Mul: the product, or ErrOverflow, of any two 64-bit integers. -/
import Derived.Test.YtafdoogghalpjaaGreatDoorVFg
import Derived.Test.YtafdoogghalpjaaGreatDoorVMath
import Derived.Laws.Bits64
import Derived.Laws.BitsLemmas
set_option linter.unusedVariables false
namespace Go.Proofs.YtafdoogghalpjaaGreatDoor.PAll
open Go.RowKit Go.Proofs.YtafdoogghalpjaaGreatDoorW.PrintWords Go.Proofs.YtafdoogghalpjaaGreatDoorW.PrintLast Go.Proofs.YtafdoogghalpjaaGreatDoorW.PrintMore

/-! ### value_Mul: function 30 -/
def i64ok (a : Int) : Prop := -9223372036854775808 ≤ a ∧ a ≤ 9223372036854775807
def two63 : Int := 9223372036854775808
instance (a : Int) : Decidable (i64ok a) := inferInstanceAs (Decidable (_ ∧ _))
def value_Mul.f (a0 : Int) (a1 : Int) : Option (Int × Int) := if i64ok a0 ∧ i64ok a1 then (if i64ok (a0 * a1) then some (a0 * a1, 0) else some (0, 4)) else none

def mag (a : Int) : Int := if a < 0 then -a else a
theorem mag_is {a : Int} (h : i64ok a) : value_magnitude.f a = some (mag a) := by
  obtain ⟨h0, h1⟩ := h
  unfold value_magnitude.f mag
  by_cases c : a < 0
  · rw [if_pos c, if_pos c]; simp only [IntKind.wrap_u64, Option.some.injEq]; omega
  · rw [if_neg c, if_neg c]; simp only [IntKind.wrap_u64, Option.some.injEq]; omega
theorem mag_bd {a : Int} (h : i64ok a) : 0 ≤ mag a ∧ mag a ≤ 9223372036854775808 := by
  obtain ⟨h0, h1⟩ := h; unfold mag; split <;> omega
theorem mul64_is {a b : Int} (ha : 0 ≤ a) (ha' : a ≤ 9223372036854775808) (hb : 0 ≤ b) (hb' : b ≤ 9223372036854775808) :
    bits_Mul64.f a b = some (a * b / 18446744073709551616, a * b % 18446744073709551616) := by
  unfold bits_Mul64.f
  rw [VCMath.mul64_hi a b ha (by omega) hb (by omega), IntKind.wrap_u64 (a * b)]
theorem mag_mul (a b : Int) : mag a * mag b = if (decide (a < 0)) = (decide (b < 0)) then a * b else -(a * b) := by
  unfold mag
  by_cases h0 : a < 0 <;> by_cases h1 : b < 0 <;> simp [h0, h1, Int.neg_mul, Int.mul_neg]

theorem neg_wrap {lo : Int} (h0 : 0 ≤ lo) (h1 : lo ≤ 9223372036854775808) : wrap64 (IntKind.u64.wrap (-lo)) = -lo := by
  rw [IntKind.wrap_u64]; unfold wrap64; omega

set_option maxHeartbeats 8000000 in
set_option maxRecDepth 100000 in
theorem mul_walk (a0 a1 m0 m1 hi lo r1 r2 : Int) (w : World) (H0 : Aside0 (value_magnitude.f a0 = some m0)) (H1 : Aside0 (value_magnitude.f a1 = some m1)) (HM : Aside0 (bits_Mul64.f m0 m1 = some (hi, lo)))
    (b0 b1 : Bool) (hb0 : decide (a0 < 0) = b0) (hb1 : decide (a1 < 0) = b1) (hh : 0 ≤ hi) (hl : 0 ≤ lo) (hl' : lo ≤ 18446744073709551615)
    (HR : Aside0 (r1 = (if b0 = b1 then (if hi = 0 ∧ lo ≤ 9223372036854775807 then lo else 0) else (if hi = 0 ∧ lo ≤ 9223372036854775808 then -lo else 0)) ∧ r2 = (if b0 = b1 then (if hi = 0 ∧ lo ≤ 9223372036854775807 then 0 else 4) else (if hi = 0 ∧ lo ≤ 9223372036854775808 then 0 else 4)))) :
    Calls Tryz.prog 30 #[.int .i64 a0, .int .i64 a1] w fun e w' => e = .returned (.tuple #[.int .i64 r1, .int .i64 r2]) ∧ Drawn0 w w' := by
  by_cases h2 : hi = 0
  · have h2b : (hi != 0) = false := bne_eq_false_iff_eq.mpr h2
    have HZ := Aside0.mk h2
    clear h2
    cases b0 <;> cases b1
    · by_cases h3 : lo ≤ 9223372036854775807
      · have h3b : decide (9223372036854775807 < lo) = false := by simpa using h3
        have HR2 : r1 = lo ∧ r2 = 0 := by have := HR.out; simpa [HZ.out, h3] using this
        rw [HR2.1, HR2.2]
        clear HR HR2
        go_enter Tryz.func30, Tryz.ntmps30
        go_wp2_with (first | (go_at_call 64; (with_reducible refine (value_magnitude.calls a0 m0 _ H0.out).mono ?_); rintro e w' ⟨rfl, ⟨nd, rfl⟩⟩) | (go_at_call 64; (with_reducible refine (value_magnitude.calls a1 m1 _ H1.out).mono ?_); rintro e w' ⟨rfl, ⟨nd, rfl⟩⟩) | (go_at_call 63; (with_reducible refine (bits_Mul64.calls m0 m1 hi lo _ HM.out).mono ?_); rintro e w' ⟨rfl, ⟨nd, rfl⟩⟩))
        go_ret2
        exact ⟨by first | rfl | (simp; done) | (simp; exact neg_wrap hl h3) | (simp [*]; done), by repeat (first | exact Drawn0.refl _ | apply Drawn0.step)⟩
      · have h3b : decide (9223372036854775807 < lo) = true := by simpa using h3
        have HR2 : r1 = 0 ∧ r2 = 4 := by have := HR.out; simpa [HZ.out, h3] using this
        rw [HR2.1, HR2.2]
        clear HR HR2
        go_enter Tryz.func30, Tryz.ntmps30
        go_wp2_with (first | (go_at_call 64; (with_reducible refine (value_magnitude.calls a0 m0 _ H0.out).mono ?_); rintro e w' ⟨rfl, ⟨nd, rfl⟩⟩) | (go_at_call 64; (with_reducible refine (value_magnitude.calls a1 m1 _ H1.out).mono ?_); rintro e w' ⟨rfl, ⟨nd, rfl⟩⟩) | (go_at_call 63; (with_reducible refine (bits_Mul64.calls m0 m1 hi lo _ HM.out).mono ?_); rintro e w' ⟨rfl, ⟨nd, rfl⟩⟩))
        go_ret2
        exact ⟨by first | rfl | (simp; done) | (simp; exact neg_wrap hl h3) | (simp [*]; done), by repeat (first | exact Drawn0.refl _ | apply Drawn0.step)⟩
    · by_cases h3 : lo ≤ 9223372036854775808
      · have h3b : decide (9223372036854775808 < lo) = false := by simpa using h3
        have HR2 : r1 = -lo ∧ r2 = 0 := by have := HR.out; simpa [HZ.out, h3] using this
        rw [HR2.1, HR2.2]
        clear HR HR2
        go_enter Tryz.func30, Tryz.ntmps30
        go_wp2_with (first | (go_at_call 64; (with_reducible refine (value_magnitude.calls a0 m0 _ H0.out).mono ?_); rintro e w' ⟨rfl, ⟨nd, rfl⟩⟩) | (go_at_call 64; (with_reducible refine (value_magnitude.calls a1 m1 _ H1.out).mono ?_); rintro e w' ⟨rfl, ⟨nd, rfl⟩⟩) | (go_at_call 63; (with_reducible refine (bits_Mul64.calls m0 m1 hi lo _ HM.out).mono ?_); rintro e w' ⟨rfl, ⟨nd, rfl⟩⟩))
        go_ret2
        exact ⟨by first | rfl | (simp; done) | (simp; exact neg_wrap hl h3) | (simp [*]; done), by repeat (first | exact Drawn0.refl _ | apply Drawn0.step)⟩
      · have h3b : decide (9223372036854775808 < lo) = true := by simpa using h3
        have HR2 : r1 = 0 ∧ r2 = 4 := by have := HR.out; simpa [HZ.out, h3] using this
        rw [HR2.1, HR2.2]
        clear HR HR2
        go_enter Tryz.func30, Tryz.ntmps30
        go_wp2_with (first | (go_at_call 64; (with_reducible refine (value_magnitude.calls a0 m0 _ H0.out).mono ?_); rintro e w' ⟨rfl, ⟨nd, rfl⟩⟩) | (go_at_call 64; (with_reducible refine (value_magnitude.calls a1 m1 _ H1.out).mono ?_); rintro e w' ⟨rfl, ⟨nd, rfl⟩⟩) | (go_at_call 63; (with_reducible refine (bits_Mul64.calls m0 m1 hi lo _ HM.out).mono ?_); rintro e w' ⟨rfl, ⟨nd, rfl⟩⟩))
        go_ret2
        exact ⟨by first | rfl | (simp; done) | (simp; exact neg_wrap hl h3) | (simp [*]; done), by repeat (first | exact Drawn0.refl _ | apply Drawn0.step)⟩
    · by_cases h3 : lo ≤ 9223372036854775808
      · have h3b : decide (9223372036854775808 < lo) = false := by simpa using h3
        have HR2 : r1 = -lo ∧ r2 = 0 := by have := HR.out; simpa [HZ.out, h3] using this
        rw [HR2.1, HR2.2]
        clear HR HR2
        go_enter Tryz.func30, Tryz.ntmps30
        go_wp2_with (first | (go_at_call 64; (with_reducible refine (value_magnitude.calls a0 m0 _ H0.out).mono ?_); rintro e w' ⟨rfl, ⟨nd, rfl⟩⟩) | (go_at_call 64; (with_reducible refine (value_magnitude.calls a1 m1 _ H1.out).mono ?_); rintro e w' ⟨rfl, ⟨nd, rfl⟩⟩) | (go_at_call 63; (with_reducible refine (bits_Mul64.calls m0 m1 hi lo _ HM.out).mono ?_); rintro e w' ⟨rfl, ⟨nd, rfl⟩⟩))
        go_ret2
        exact ⟨by first | rfl | (simp; done) | (simp; exact neg_wrap hl h3) | (simp [*]; done), by repeat (first | exact Drawn0.refl _ | apply Drawn0.step)⟩
      · have h3b : decide (9223372036854775808 < lo) = true := by simpa using h3
        have HR2 : r1 = 0 ∧ r2 = 4 := by have := HR.out; simpa [HZ.out, h3] using this
        rw [HR2.1, HR2.2]
        clear HR HR2
        go_enter Tryz.func30, Tryz.ntmps30
        go_wp2_with (first | (go_at_call 64; (with_reducible refine (value_magnitude.calls a0 m0 _ H0.out).mono ?_); rintro e w' ⟨rfl, ⟨nd, rfl⟩⟩) | (go_at_call 64; (with_reducible refine (value_magnitude.calls a1 m1 _ H1.out).mono ?_); rintro e w' ⟨rfl, ⟨nd, rfl⟩⟩) | (go_at_call 63; (with_reducible refine (bits_Mul64.calls m0 m1 hi lo _ HM.out).mono ?_); rintro e w' ⟨rfl, ⟨nd, rfl⟩⟩))
        go_ret2
        exact ⟨by first | rfl | (simp; done) | (simp; exact neg_wrap hl h3) | (simp [*]; done), by repeat (first | exact Drawn0.refl _ | apply Drawn0.step)⟩
    · by_cases h3 : lo ≤ 9223372036854775807
      · have h3b : decide (9223372036854775807 < lo) = false := by simpa using h3
        have HR2 : r1 = lo ∧ r2 = 0 := by have := HR.out; simpa [HZ.out, h3] using this
        rw [HR2.1, HR2.2]
        clear HR HR2
        go_enter Tryz.func30, Tryz.ntmps30
        go_wp2_with (first | (go_at_call 64; (with_reducible refine (value_magnitude.calls a0 m0 _ H0.out).mono ?_); rintro e w' ⟨rfl, ⟨nd, rfl⟩⟩) | (go_at_call 64; (with_reducible refine (value_magnitude.calls a1 m1 _ H1.out).mono ?_); rintro e w' ⟨rfl, ⟨nd, rfl⟩⟩) | (go_at_call 63; (with_reducible refine (bits_Mul64.calls m0 m1 hi lo _ HM.out).mono ?_); rintro e w' ⟨rfl, ⟨nd, rfl⟩⟩))
        go_ret2
        exact ⟨by first | rfl | (simp; done) | (simp; exact neg_wrap hl h3) | (simp [*]; done), by repeat (first | exact Drawn0.refl _ | apply Drawn0.step)⟩
      · have h3b : decide (9223372036854775807 < lo) = true := by simpa using h3
        have HR2 : r1 = 0 ∧ r2 = 4 := by have := HR.out; simpa [HZ.out, h3] using this
        rw [HR2.1, HR2.2]
        clear HR HR2
        go_enter Tryz.func30, Tryz.ntmps30
        go_wp2_with (first | (go_at_call 64; (with_reducible refine (value_magnitude.calls a0 m0 _ H0.out).mono ?_); rintro e w' ⟨rfl, ⟨nd, rfl⟩⟩) | (go_at_call 64; (with_reducible refine (value_magnitude.calls a1 m1 _ H1.out).mono ?_); rintro e w' ⟨rfl, ⟨nd, rfl⟩⟩) | (go_at_call 63; (with_reducible refine (bits_Mul64.calls m0 m1 hi lo _ HM.out).mono ?_); rintro e w' ⟨rfl, ⟨nd, rfl⟩⟩))
        go_ret2
        exact ⟨by first | rfl | (simp; done) | (simp; exact neg_wrap hl h3) | (simp [*]; done), by repeat (first | exact Drawn0.refl _ | apply Drawn0.step)⟩
  · have h2b : (hi != 0) = true := bne_iff_ne.mpr h2
    cases b0 <;> cases b1
    all_goals
      have HR2 : r1 = 0 ∧ r2 = 4 := by have := HR.out; simpa [h2] using this
      rw [HR2.1, HR2.2]
      clear HR HR2
      go_enter Tryz.func30, Tryz.ntmps30
      go_wp2_with (first | (go_at_call 64; (with_reducible refine (value_magnitude.calls a0 m0 _ H0.out).mono ?_); rintro e w' ⟨rfl, ⟨nd, rfl⟩⟩) | (go_at_call 64; (with_reducible refine (value_magnitude.calls a1 m1 _ H1.out).mono ?_); rintro e w' ⟨rfl, ⟨nd, rfl⟩⟩) | (go_at_call 63; (with_reducible refine (bits_Mul64.calls m0 m1 hi lo _ HM.out).mono ?_); rintro e w' ⟨rfl, ⟨nd, rfl⟩⟩))
      go_ret2
      exact ⟨by first | rfl | (simp; done) | (simp; exact neg_wrap hl h3) | (simp [*]; done), by repeat (first | exact Drawn0.refl _ | apply Drawn0.step)⟩

theorem value_Mul.calls (a0 : Int) (a1 : Int) (r1 : Int) (r2 : Int) (w : World) (h : value_Mul.f a0 a1 = some (r1, r2)) :
    Calls Tryz.prog 30 #[.int .i64 a0, .int .i64 a1] w fun e w' => e = .returned (.tuple #[.int .i64 r1, .int .i64 r2]) ∧ Drawn0 w w' := by
  unfold value_Mul.f at h
  split at h
  · rename_i hc
    obtain ⟨h0, h1⟩ := hc
    obtain ⟨m0l, m0h⟩ := mag_bd h0
    obtain ⟨m1l, m1h⟩ := mag_bd h1
    have hp := Int.mul_nonneg m0l m1l
    have hq := mag_mul a0 a1
    have hlim : mag a0 * mag a1 < 18446744073709551616 * 18446744073709551616 := by
      have := Int.mul_le_mul m0h m1h m1l (by omega)
      omega
    have hm := mul64_is m0l m0h m1l m1h
    refine mul_walk a0 a1 (mag a0) (mag a1) _ _ r1 r2 w ⟨mag_is h0⟩ ⟨mag_is h1⟩ ⟨hm⟩ (decide (a0 < 0)) (decide (a1 < 0)) rfl rfl (by omega) (by omega) (by omega) ⟨?_⟩
    clear hm
    generalize mag a0 * mag a1 = p at *
    generalize a0 * a1 = q at *
    generalize decide (a0 < 0) = b0 at *
    generalize decide (a1 < 0) = b1 at *
    by_cases hb : b0 = b1
    · rw [if_pos hb] at hq
      subst hq
      rw [if_pos hb, if_pos hb]
      by_cases hr : p ≤ 9223372036854775807
      · rw [if_pos (by unfold i64ok; omega)] at h
        rw [if_pos (by omega), if_pos (by omega)]
        simp only [Option.some.injEq, Prod.mk.injEq] at h
        omega
      · rw [if_neg (by unfold i64ok; omega)] at h
        rw [if_neg (by omega), if_neg (by omega)]
        simp only [Option.some.injEq, Prod.mk.injEq] at h
        omega
    · rw [if_neg hb] at hq
      rw [if_neg hb, if_neg hb]
      by_cases hr : p ≤ 9223372036854775808
      · rw [if_pos (by unfold i64ok; omega)] at h
        rw [if_pos (by omega), if_pos (by omega)]
        simp only [Option.some.injEq, Prod.mk.injEq] at h
        omega
      · rw [if_neg (by unfold i64ok; omega)] at h
        rw [if_neg (by omega), if_neg (by omega)]
        simp only [Option.some.injEq, Prod.mk.injEq] at h
        omega
  · cases h

end Go.Proofs.YtafdoogghalpjaaGreatDoor.PAll
