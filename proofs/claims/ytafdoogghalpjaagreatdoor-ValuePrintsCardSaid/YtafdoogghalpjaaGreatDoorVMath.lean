/- Plain arithmetic: the product of two words in two words. -/
import Derived.Laws.Bits64
import Derived.Laws.BitsLemmas
import Derived.RowKit
set_option linter.unusedVariables false
namespace Go.Proofs.YtafdoogghalpjaaGreatDoor.VCMath
open Go.RowKit

def cl (a : Int) : Int := if a < 0 then 0 else if 4611686018427387904 < a then 4611686018427387904 else a
def cap (a : Int) : Int := if 4611686018427387904 < a then 4611686018427387904 else a
theorem cl_lo (a : Int) : 0 ≤ cl a := by unfold cl; split; omega; split <;> omega
theorem cl_hi (a : Int) : cl a ≤ 4611686018427387904 := by unfold cl; split; omega; split <;> omega
theorem cl_id {a : Int} (h0 : 0 ≤ a) (h1 : a ≤ 4611686018427387904) : cl a = a := by unfold cl; rw [if_neg (by omega), if_neg (by omega)]
theorem cap_lo {a : Int} (h : 0 ≤ a) : 0 ≤ cap a := by unfold cap; split <;> omega
theorem cap_hi (a : Int) : cap a ≤ 4611686018427387904 := by unfold cap; split <;> omega
theorem cl_cap {a : Int} (h : 0 ≤ a) : cl (cap a) = cap a := cl_id (cap_lo h) (cap_hi a)

theorem u64_wrap (n : Int) (h0 : 0 ≤ n) (h1 : n < 18446744073709551616) : IntKind.u64.wrap n = n := by
  rw [IntKind.wrap_u64]; omega
theorem and32 (x : Int) (h0 : 0 ≤ x) (h1 : x < 18446744073709551616) : Go.bits .and .u64 x 4294967295 = x % 4294967296 :=
  bits_mask .u64 64 (by decide) (fun n a b => u64_wrap n a (by simpa using b)) 32 (by decide) x h0 (by simpa using h1)

theorem mul_bd {a b : Int} (ha : 0 ≤ a) (ha' : a ≤ 4294967295) (hb : 0 ≤ b) (hb' : b ≤ 4294967295) : 0 ≤ a * b ∧ a * b ≤ 18446744065119617025 :=
  ⟨Int.mul_nonneg ha hb, Int.le_trans (Int.mul_le_mul ha' hb' hb (by omega)) (by omega)⟩

theorem split_mul (x y : Int) : x * y = (x / 4294967296) * (y / 4294967296) * 18446744073709551616 + ((x / 4294967296) * (y % 4294967296) + (x % 4294967296) * (y / 4294967296)) * 4294967296 + (x % 4294967296) * (y % 4294967296) := by
  have hx : x = (x / 4294967296) * 4294967296 + x % 4294967296 := by omega
  have hy : y = (y / 4294967296) * 4294967296 + y % 4294967296 := by omega
  generalize x / 4294967296 = a at *
  generalize x % 4294967296 = b at *
  generalize y / 4294967296 = c at *
  generalize y % 4294967296 = d at *
  subst hx hy
  grind

theorem hi_word (p11 p10 p01 p00 : Int) (h1 : 0 ≤ p11 ∧ p11 ≤ 18446744065119617025) (h2 : 0 ≤ p10 ∧ p10 ≤ 18446744065119617025)
    (h3 : 0 ≤ p01 ∧ p01 ≤ 18446744065119617025) (h4 : 0 ≤ p00 ∧ p00 ≤ 18446744065119617025) :
    p11 + (p10 + p00 / 4294967296) / 4294967296 + ((p10 + p00 / 4294967296) % 4294967296 + p01) / 4294967296
      = (p11 * 18446744073709551616 + (p10 + p01) * 4294967296 + p00) / 18446744073709551616 := by
  omega

/-- What 'bits.Mul64' reckons: the high word. -/
theorem mul64_hi (a b : Int) (ha : 0 ≤ a) (ha' : a < 18446744073709551616) (hb : 0 ≤ b) (hb' : b < 18446744073709551616) :
    IntKind.u64.wrap ((IntKind.u64.wrap ((IntKind.u64.wrap ((a / 4294967296) * (b / 4294967296))) + ((IntKind.u64.wrap ((IntKind.u64.wrap ((a / 4294967296) * (Go.bits .and .u64 b 4294967295))) + ((IntKind.u64.wrap ((Go.bits .and .u64 a 4294967295) * (Go.bits .and .u64 b 4294967295))) / 4294967296))) / 4294967296))) + ((IntKind.u64.wrap ((Go.bits .and .u64 (IntKind.u64.wrap ((IntKind.u64.wrap ((a / 4294967296) * (Go.bits .and .u64 b 4294967295))) + ((IntKind.u64.wrap ((Go.bits .and .u64 a 4294967295) * (Go.bits .and .u64 b 4294967295))) / 4294967296))) 4294967295) + (IntKind.u64.wrap ((Go.bits .and .u64 a 4294967295) * (b / 4294967296))))) / 4294967296))
      = a * b / 18446744073709551616 := by
  rw [and32 a ha ha', and32 b hb hb', split_mul a b]
  have e1 := mul_bd (a := a / 4294967296) (b := b / 4294967296) (by omega) (by omega) (by omega) (by omega)
  have e2 := mul_bd (a := a / 4294967296) (b := b % 4294967296) (by omega) (by omega) (by omega) (by omega)
  have e3 := mul_bd (a := a % 4294967296) (b := b / 4294967296) (by omega) (by omega) (by omega) (by omega)
  have e4 := mul_bd (a := a % 4294967296) (b := b % 4294967296) (by omega) (by omega) (by omega) (by omega)
  have e := hi_word _ _ _ _ e1 e2 e3 e4
  generalize (a / 4294967296) * (b / 4294967296) = p11 at *
  generalize (a / 4294967296) * (b % 4294967296) = p10 at *
  generalize (a % 4294967296) * (b / 4294967296) = p01 at *
  generalize (a % 4294967296) * (b % 4294967296) = p00 at *
  rw [u64_wrap p11 (by omega) (by omega), u64_wrap p10 (by omega) (by omega), u64_wrap p01 (by omega) (by omega), u64_wrap p00 (by omega) (by omega)]
  rw [u64_wrap (p10 + p00 / 4294967296) (by omega) (by omega), and32 (p10 + p00 / 4294967296) (by omega) (by omega)]
  rw [u64_wrap (p11 + (p10 + p00 / 4294967296) / 4294967296) (by omega) (by omega), u64_wrap ((p10 + p00 / 4294967296) % 4294967296 + p01) (by omega) (by omega), ← e]
  apply u64_wrap <;> omega

theorem mul_ge_left {x y : Int} (hx : 1 ≤ x) (hy : 0 ≤ y) : y ≤ x * y := by
  have := Int.mul_le_mul_of_nonneg_right hx hy
  simpa using this

theorem mul_ge_right {x y : Int} (hx : 0 ≤ x) (hy : 1 ≤ y) : x ≤ x * y := by
  have := Int.mul_le_mul_of_nonneg_left hy hx
  simpa using this

theorem cap_big {a : Int} (h : 4611686018427387904 ≤ a) : cap a = 4611686018427387904 := by unfold cap; split <;> omega
theorem cap_small {a : Int} (h : a ≤ 4611686018427387904) : cap a = a := by unfold cap; split <;> omega

theorem plus_assoc {x y z : Int} (hx : 0 ≤ x) (hy : 0 ≤ y) (hz : 0 ≤ z) : cap (x + cap (y + z)) = cap (cap (x + y) + z) := by
  unfold cap; (repeat' split) <;> omega

theorem times_assoc {x y z : Int} (hx : 0 ≤ x) (hy : 0 ≤ y) (hz : 0 ≤ z) : cap (x * cap (y * z)) = cap (cap (x * y) * z) := by
  by_cases h1 : y * z ≤ 4611686018427387904
  · rw [cap_small h1]
    by_cases h2 : x * y ≤ 4611686018427387904
    · rw [cap_small h2, Int.mul_assoc]
    · rw [cap_big (a := x * y) (by omega)]
      by_cases hz0 : z = 0
      · subst hz0; simp
      · rw [cap_big (a := 4611686018427387904 * z) (by omega)]
        have : x * y ≤ x * y * z := mul_ge_right (Int.mul_nonneg hx hy) (by omega)
        rw [← Int.mul_assoc, cap_big (by omega)]
  · rw [cap_big (a := y * z) (by omega)]
    by_cases hx0 : x = 0
    · subst hx0; simp [cap]
    · have h3 : y * z ≤ x * (y * z) := mul_ge_left (by omega) (Int.mul_nonneg hy hz)
      rw [cap_big (a := x * 4611686018427387904) (by omega)]
      by_cases h2 : x * y ≤ 4611686018427387904
      · rw [cap_small h2, Int.mul_assoc, cap_big (by omega)]
      · rw [cap_big (a := x * y) (by omega)]
        have hz0 : z ≠ 0 := by intro e; subst e; simp at h1
        rw [cap_big (by omega)]

theorem times_plus {x y z : Int} (hx : 0 ≤ x) (hy : 0 ≤ y) (hz : 0 ≤ z) (hy' : y ≤ 4611686018427387904) (hz' : z ≤ 4611686018427387904) : cap (x * cap (y + z)) = cap (cap (x * y) + cap (x * z)) := by
  have p1 := Int.mul_nonneg hx hy
  have p2 := Int.mul_nonneg hx hz
  by_cases h1 : y + z ≤ 4611686018427387904
  · rw [cap_small h1, Int.mul_add]
    unfold cap; (repeat' split) <;> omega
  · rw [cap_big (a := y + z) (by omega)]
    by_cases hx0 : x = 0
    · subst hx0; simp [cap]
    · have h3 : y ≤ x * y := mul_ge_left (by omega) hy
      have h4 : z ≤ x * z := mul_ge_left (by omega) hz
      rw [cap_big (a := x * 4611686018427387904) (by omega)]
      unfold cap; (repeat' split) <;> omega

theorem cap_mul {x y : Int} (hx : 0 ≤ x) (hy : 1 ≤ y) (h : 4611686018427387904 / y < x) : cap (x * y) = 4611686018427387904 := by
  have : 4611686018427387904 < x * y := by
    have := (Int.ediv_lt_iff_lt_mul (by omega : 0 < y)).mp h
    omega
  exact cap_big (by omega)
theorem cap_mul' {x y : Int} (hx : 0 ≤ x) (hy : 1 ≤ y) (h : ¬ 4611686018427387904 / y < x) : x * y ≤ 4611686018427387904 := by
  have := (Int.le_ediv_iff_mul_le (by omega : 0 < y)).mp (Int.not_lt.mp h)
  omega
end Go.Proofs.YtafdoogghalpjaaGreatDoor.VCMath
