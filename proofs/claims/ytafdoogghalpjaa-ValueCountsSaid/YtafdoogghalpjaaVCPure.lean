/- The functions of ValueCounts, as numbers: sums and products that stay at 2^62 agree with the reference, and the law's three equations hold. No condition beyond the arguments being 64-bit integers. -/
import Derived.Test.YtafdoogghalpjaaVCWalks
import Derived.Test.YtafdoogghalpjaaVCMath
set_option linter.unusedVariables false
namespace Go.Proofs.Ytafdoogghalpjaa.Pure
open Go.RowKit Go.Proofs.Ytafdoogghalpjaa.PValueCounts Go.Proofs.YtafdoogghalpjaaW.PrintWords Go.Proofs.YtafdoogghalpjaaW.PrintLast Go.Proofs.YtafdoogghalpjaaW.PrintMore Go.Proofs.Ytafdoogghalpjaa.VCMath

theorem clamp_is (a : Int) : value_clamp.f a = some (cl a) := by
  unfold value_clamp.f cl mn mx
  congr 1
  (repeat' split) <;> omega

theorem number_is (a : Int) : jointerref01_Number.f a = some (cl a) := by
  unfold jointerref01_Number.f cl
  (repeat' split) <;> first | rfl | omega

theorem wrap64_id {n : Int} (h0 : 0 ≤ n) (h1 : n ≤ 9223372036854775807) : wrap64 n = n := by
  unfold wrap64; omega

theorem plus_is (a b : Int) : value_Plus.f a b = some (cap (cl a + cl b)) := by
  have h1 := cl_lo a; have h2 := cl_hi a; have h3 := cl_lo b; have h4 := cl_hi b
  unfold value_Plus.f
  rw [clamp_is, clamp_is]; simp only [Option.bind_some]
  rw [u64_wrap (cl a) (by omega) (by omega), u64_wrap (cl b) (by omega) (by omega), u64_wrap (cl a + cl b) (by omega) (by omega)]
  unfold mn cap
  split <;> rw [wrap64_id (by omega) (by omega)]

theorem ref_plus_is (a b : Int) : jointerref01_Plus.f a b = some (cap (cl a + cl b)) := by
  have h1 := cl_lo a; have h2 := cl_hi a; have h3 := cl_lo b; have h4 := cl_hi b
  unfold jointerref01_Plus.f
  rw [number_is, number_is]; simp only [Option.bind_some]
  rw [wrap64_id (n := 4611686018427387904 - cl b) (by omega) (by omega)]
  unfold cap
  split
  · rw [if_pos (by omega)]
  · rw [if_neg (by omega), wrap64_id (by omega) (by omega)]

theorem mul64_is {a b : Int} (ha : 0 ≤ a) (ha' : a ≤ 4611686018427387904) (hb : 0 ≤ b) (hb' : b ≤ 4611686018427387904) :
    bits_Mul64.f a b = some (a * b / 18446744073709551616, a * b % 18446744073709551616) := by
  unfold bits_Mul64.f
  rw [mul64_hi a b ha (by omega) hb (by omega), IntKind.wrap_u64 (a * b)]

theorem times_is (a b : Int) : value_Times.f a b = some (cap (cl a * cl b)) := by
  have h1 := cl_lo a; have h2 := cl_hi a; have h3 := cl_lo b; have h4 := cl_hi b
  have h5 := Int.mul_nonneg h1 h3
  unfold value_Times.f
  rw [clamp_is, clamp_is]; simp only [Option.bind_some]
  rw [u64_wrap (cl a) (by omega) (by omega), u64_wrap (cl b) (by omega) (by omega), mul64_is h1 h2 h3 h4]
  simp only [Option.bind_some]
  generalize cl a * cl b = p at *
  unfold mn cap
  split
  · split <;> split <;> first | (rw [wrap64_id (by omega) (by omega)]; done) | (rw [wrap64_id (by omega) (by omega)]; congr 1; omega) | omega
  · split <;> first | rfl | omega

theorem ref_times_is (k : Nat) (a b : Int) : jointerref01_Times.f (k + 1) a b = some (cap (cl a * cl b)) := by
  have h1 := cl_lo a; have h2 := cl_hi a; have h3 := cl_lo b; have h4 := cl_hi b
  unfold jointerref01_Times.f
  rw [number_is, number_is]; simp only [Option.bind_some]
  by_cases ha : cl a = 0
  · rw [if_pos ha, ha]; simp only [jointerref01_Times.j0]; simp [cap]
  · rw [if_neg ha]
    by_cases hb : cl b = 0
    · rw [hb]; simp only [jointerref01_Times.j0]; simp [cap]
    · rw [beq_eq_false_iff_ne.mpr hb]; simp only [jointerref01_Times.j0]
      rw [if_neg (by decide), if_neg hb, quot_bare h3]
      by_cases hc : 4611686018427387904 / cl b < cl a
      · rw [if_pos hc, cap_mul h1 (by omega) hc]
      · have hd := cap_mul' h1 (by omega) hc
        have h5 := Int.mul_nonneg h1 h3
        rw [if_neg hc, cap_small hd, wrap64_id h5 (by omega)]

theorem ValueCounts : jointerlaw01_ValueCounts.Pure := by
  intro a b c _ _ _
  have a1 := cl_lo a; have b1 := cl_lo b; have c1 := cl_lo c
  have a2 := cl_hi a; have b2 := cl_hi b; have c2 := cl_hi c
  refine ⟨1, ?_⟩
  unfold jointerlaw01_ValueCounts.f
  rw [plus_is, ref_plus_is]; simp only [Option.bind_some]; rw [if_pos trivial, times_is, ref_times_is]; simp only [Option.bind_some]
  rw [bne_self_eq_false]
  simp only [jointerlaw01_ValueCounts.j0]
  rw [if_neg (by decide)]
  simp only [plus_is, times_is, Option.bind_some]
  rw [cl_cap (a := cl b + cl c) (by omega), cl_cap (a := cl a + cl b) (by omega), plus_assoc a1 b1 c1, if_pos rfl]
  rw [cl_cap (Int.mul_nonneg b1 c1), cl_cap (Int.mul_nonneg a1 b1), cl_cap (Int.mul_nonneg a1 c1), times_assoc a1 b1 c1, if_pos rfl]
  rw [times_plus a1 b1 c1 b2 c2, if_pos rfl]
  rfl

end Go.Proofs.Ytafdoogghalpjaa.Pure
