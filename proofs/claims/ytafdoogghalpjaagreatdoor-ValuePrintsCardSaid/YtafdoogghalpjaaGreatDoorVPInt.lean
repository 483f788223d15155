/- Plain laws of the integer arithmetic of layer 1: what the program's and the reference's sums, differences, products, quotients and remainders come to. -/
import Derived.Test.YtafdoogghalpjaaGreatDoorVMul
import Derived.Test.YtafdoogghalpjaaGreatDoorVFc
import Derived.Test.YtafdoogghalpjaaGreatDoorVFe
set_option linter.unusedVariables false
namespace Go.Proofs.YtafdoogghalpjaaGreatDoor.PAll
open Go.RowKit

def res (p : Int) : Option (Int × Int) := if i64ok p then some (p, 0) else some (0, 4)

theorem wrap_neg (v : BitVec 64) : (IntKind.i64.wrap (v.toNat : Int) < 0) ↔ v.msb = true := by
  have h := v.isLt
  rw [IntKind.wrap_i64, BitVec.msb_eq_decide, decide_eq_true_eq]
  omega
theorem ofInt_wrap (v : BitVec 64) : BitVec.ofInt 64 (IntKind.i64.wrap (v.toNat : Int)) = v := by
  have h := v.isLt
  apply BitVec.eq_of_toNat_eq
  rw [BitVec.toNat_ofInt, IntKind.wrap_i64]
  omega
theorem msb_ofInt {x : Int} (h : i64ok x) : (BitVec.ofInt 64 x).msb = decide (x < 0) := by
  obtain ⟨h0, h1⟩ := h
  rw [BitVec.msb_eq_decide, BitVec.toNat_ofInt, Bool.eq_iff_iff, decide_eq_true_eq, decide_eq_true_eq]
  omega
theorem signs {a b c d : Int} (ha : i64ok a) (hb : i64ok b) (hc : i64ok c) (hd : i64ok d) :
    (Go.bits .and .i64 (Go.bits .xor .i64 a b) (Go.bits .xor .i64 c d) < 0) ↔ ((a < 0) ≠ (b < 0)) ∧ ((c < 0) ≠ (d < 0)) := by
  show IntKind.i64.wrap (((BitVec.ofInt 64 (IntKind.i64.wrap ((BitVec.ofInt 64 a ^^^ BitVec.ofInt 64 b).toNat : Int)) &&& BitVec.ofInt 64 (IntKind.i64.wrap ((BitVec.ofInt 64 c ^^^ BitVec.ofInt 64 d).toNat : Int))).toNat : Nat) : Int) < 0 ↔ _
  rw [wrap_neg, ofInt_wrap, ofInt_wrap, BitVec.msb_and, BitVec.msb_xor, BitVec.msb_xor, msb_ofInt ha, msb_ofInt hb, msb_ofInt hc, msb_ofInt hd]
  by_cases h1 : a < 0 <;> by_cases h2 : b < 0 <;> by_cases h3 : c < 0 <;> by_cases h4 : d < 0 <;> simp [h1, h2, h3, h4]
theorem wrap64_ok (n : Int) : i64ok (wrap64 n) := by unfold i64ok wrap64; omega
theorem wrap64_same {n : Int} (h : i64ok n) : wrap64 n = n := by unfold i64ok at h; unfold wrap64; omega

theorem add_is {a b : Int} (ha : i64ok a) (hb : i64ok b) : value_Add.f a b = res (a + b) := by
  have hw := wrap64_ok (a + b)
  have hs := signs ha hw hb hw
  unfold value_Add.f res
  by_cases h : i64ok (a + b)
  · rw [if_pos h, if_neg, wrap64_same h]
    rw [hs, wrap64_same h]
    obtain ⟨h0, h1⟩ := h; obtain ⟨a0, a1⟩ := ha; obtain ⟨b0, b1⟩ := hb
    rintro ⟨h2, h3⟩
    simp only [ne_eq, eq_iff_iff] at h2 h3
    omega
  · rw [if_neg h, if_pos]
    rw [hs]
    unfold i64ok at h ha hb
    simp only [ne_eq, eq_iff_iff]
    unfold wrap64
    omega
theorem sub_is {a b : Int} (ha : i64ok a) (hb : i64ok b) : value_Sub.f a b = res (a - b) := by
  have hw := wrap64_ok (a - b)
  have hs := signs ha hb ha hw
  unfold value_Sub.f res
  by_cases h : i64ok (a - b)
  · rw [if_pos h, if_neg, wrap64_same h]
    rw [hs, wrap64_same h]
    obtain ⟨h0, h1⟩ := h; obtain ⟨a0, a1⟩ := ha; obtain ⟨b0, b1⟩ := hb
    rintro ⟨h2, h3⟩
    simp only [ne_eq, eq_iff_iff] at h2 h3
    omega
  · rw [if_neg h, if_pos]
    rw [hs]
    unfold i64ok at h ha hb
    simp only [ne_eq, eq_iff_iff]
    unfold wrap64
    omega
theorem radd_is {a b : Int} (ha : i64ok a) (hb : i64ok b) : jointerref01_Add.f a b = res (a + b) := by
  have ha' := ha; have hb' := hb
  unfold i64ok at ha' hb'
  unfold jointerref01_Add.f res
  by_cases h : i64ok (a + b)
  · rw [if_pos h, wrap64_same h]
    (repeat' split) <;> first | rfl | (exfalso; omega)
  · rw [if_neg h]
    have hw : wrap64 (a + b) = a + b - 18446744073709551616 ∨ wrap64 (a + b) = a + b + 18446744073709551616 := by unfold i64ok at h; unfold wrap64; omega
    have hk := wrap64_ok (a + b)
    unfold i64ok at h hk
    (repeat' split) <;> first | rfl | (exfalso; omega)
theorem rsub_is {a b : Int} (ha : i64ok a) (hb : i64ok b) : jointerref01_Sub.f a b = res (a - b) := by
  have ha' := ha; have hb' := hb
  unfold i64ok at ha' hb'
  unfold jointerref01_Sub.f res
  by_cases h : i64ok (a - b)
  · rw [if_pos h, wrap64_same h]
    (repeat' split) <;> first | rfl | (exfalso; omega)
  · rw [if_neg h]
    have hw : wrap64 (a - b) = a - b - 18446744073709551616 ∨ wrap64 (a - b) = a - b + 18446744073709551616 := by unfold i64ok at h; unfold wrap64; omega
    have hk := wrap64_ok (a - b)
    unfold i64ok at h hk
    (repeat' split) <;> first | rfl | (exfalso; omega)
theorem mul_is {a b : Int} (ha : i64ok a) (hb : i64ok b) : value_Mul.f a b = res (a * b) := by
  unfold value_Mul.f res; rw [if_pos ⟨ha, hb⟩]

theorem near {a b c : Int} (hb : b ≠ 0) (h : Int.tdiv c b = a) : (a * b - c).natAbs < b.natAbs := by
  have h1 := Int.tmod_add_mul_tdiv c b
  have h2 : (Int.tmod c b).natAbs < b.natAbs := by
    rw [Int.natAbs_tmod]; exact Nat.mod_lt _ (Int.natAbs_pos.2 hb)
  rw [h] at h1
  have : a * b - c = - Int.tmod c b := by rw [Int.mul_comm]; omega
  rw [this, Int.natAbs_neg]; exact h2

theorem rmul_is (k : Nat) {a b : Int} (ha : i64ok a) (hb : i64ok b) : jointerref01_Mul.f (k + 2) a b = res (a * b) := by
  unfold jointerref01_Mul.f
  by_cases h0 : a = 0
  · rw [if_pos h0]; subst h0; simp [jointerref01_Mul.j0, res, i64ok]
  · rw [if_neg h0]
    by_cases h1 : b = 0
    · subst h1; simp [jointerref01_Mul.j0, res, i64ok]
    · rw [beq_eq_false_iff_ne.mpr h1]
      have ha' := ha; have hb' := hb
      unfold i64ok at ha' hb'
      have main : ¬(a = -9223372036854775808 ∧ b = -1) → ¬(a = -1 ∧ b = -9223372036854775808) → jointerref01_Mul.j1 (k + 1) a b false = res (a * b) := by
        intro n1 n2
        simp only [jointerref01_Mul.j1]
        rw [if_neg (by decide), if_neg h1]
        unfold res
        by_cases h : i64ok (a * b)
        · rw [if_pos h, wrap64_same h, Int.mul_tdiv_cancel _ h1, wrap64_same ha, if_pos rfl]
        · rw [if_neg h, if_neg]
          intro e
          have hne : b ≠ -1 := by
            rintro rfl
            apply h; unfold i64ok; omega
          have hk := wrap64_ok (a * b)
          have hq : wrap64 (Int.tdiv (wrap64 (a * b)) b) = Int.tdiv (wrap64 (a * b)) b := by
            apply wrap64_same
            have h3 : (Int.tdiv (wrap64 (a * b)) b).natAbs = (wrap64 (a * b)).natAbs / b.natAbs := Int.natAbs_tdiv _ _
            by_cases hb1 : b = 1
            · subst hb1; rw [Int.tdiv_one]; exact hk
            · have h4 : (wrap64 (a * b)).natAbs / b.natAbs ≤ (wrap64 (a * b)).natAbs / 2 := Nat.div_le_div_left (by omega) (by omega)
              unfold i64ok at hk ⊢
              omega
          rw [hq] at e
          have hn := near h1 e
          have hm : ∃ m : Int, a * b - wrap64 (a * b) = m * 18446744073709551616 := ⟨(a * b + 9223372036854775808) / 18446744073709551616, by unfold wrap64; omega⟩
          obtain ⟨m, hm⟩ := hm
          have hm0 : m = 0 := by omega
          subst hm0
          apply h
          rw [show a * b = wrap64 (a * b) by omega]
          exact hk
      by_cases h2 : a = -9223372036854775808
      · by_cases h3 : b = -1
        · subst h2 h3
          simp [jointerref01_Mul.j0, jointerref01_Mul.j1, res, i64ok]
        · simp only [jointerref01_Mul.j0]
          rw [if_neg (by decide), if_pos h2, if_neg h3, if_neg (by omega)]
          exact main (fun h => h3 h.2) (fun h => by omega)
      · simp only [jointerref01_Mul.j0]
        rw [if_neg (by decide), if_neg h2]
        by_cases h3 : a = -1
        · rw [if_pos h3]
          by_cases h4 : b = -9223372036854775808
          · subst h3 h4
            simp [jointerref01_Mul.j1, res, i64ok]
          · rw [beq_eq_false_iff_ne.mpr h4]
            exact main (fun h => h2 h.1) (fun h => h4 h.2)
        · rw [if_neg h3]
          exact main (fun h => h2 h.1) (fun h => h3 h.1)
end Go.Proofs.YtafdoogghalpjaaGreatDoor.PAll
