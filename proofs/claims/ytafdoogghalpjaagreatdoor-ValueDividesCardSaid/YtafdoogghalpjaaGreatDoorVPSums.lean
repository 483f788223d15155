/- ValueSums and ValueDivides without Go and memory: the statement that the printed function answers true. -/
import Derived.Test.YtafdoogghalpjaaGreatDoorVPInt
import Derived.Test.YtafdoogghalpjaaGreatDoorVLSums
import Derived.Test.YtafdoogghalpjaaGreatDoorVLDivides
set_option linter.unusedVariables false
namespace Go.Proofs.YtafdoogghalpjaaGreatDoor.PAll
open Go.RowKit

theorem awake_at (d : Nat) : jointerlaw01_awake.f (40 + d) = some true := by
  induction d with
  | zero => exact jointerlaw01_awake.is_true
  | succ d ih => exact jointerlaw01_awake.mono _ _ ih
theorem i64_of {a : Int} (h : (Lit.int .i64 a).wf = true) : i64ok a := by
  simpa [Lit.wf, IntKind.min, IntKind.max, IntKind.bits, IntKind.signed, i64ok] using h

theorem div_is {a b : Int} (ha : i64ok a) (hb : i64ok b) : value_Div.f a b = jointerref01_Div.f a b := by
  unfold value_Div.f jointerref01_Div.f
  by_cases h0 : b = 0
  · rw [if_pos h0, if_pos h0]
  · rw [if_neg h0, if_neg h0]
    by_cases h1 : b = -1
    · subst h1
      rw [if_pos rfl, sub_is (by unfold i64ok; omega) ha]
      unfold res
      unfold i64ok at ha
      by_cases h2 : a = -9223372036854775808
      · subst h2; simp [i64ok]
      · rw [if_neg h2, if_pos (by unfold i64ok; omega)]
        simp only [Option.bind_some]
        rw [show Int.tdiv a (-1) = -a by rw [Int.tdiv_neg, Int.tdiv_one], wrap64_same (by unfold i64ok; omega)]
        simp
    · rw [if_neg h1]
      by_cases h2 : a = -9223372036854775808
      · rw [if_pos h2, if_neg h1]
      · rw [if_neg h2]
theorem mod_is (a b : Int) : value_Mod.f a b = jointerref01_Mod.f a b := by
  unfold value_Mod.f jointerref01_Mod.f
  by_cases h0 : b = 0
  · rw [if_pos h0, if_pos h0]
  · rw [if_neg h0, if_neg h0]
    by_cases h1 : b = 1
    · subst h1; rw [if_pos rfl, if_neg (by decide)]; simp
    · rw [if_neg h1]

theorem sum_self (x : Int × Int) : jointerlaw01_sum.f x.1 x.2 x.1 x.2 = some true := by
  unfold jointerlaw01_sum.f; simp
theorem res_some (p : Int) : ∃ x, res p = some x := by unfold res; split <;> exact ⟨_, rfl⟩
theorem rdiv_some (a b : Int) : ∃ x, jointerref01_Div.f a b = some x := by unfold jointerref01_Div.f; (repeat' split) <;> exact ⟨_, rfl⟩
theorem rmod_some (a b : Int) : ∃ x, jointerref01_Mod.f a b = some x := by unfold jointerref01_Mod.f; (repeat' split) <;> exact ⟨_, rfl⟩

theorem ValueSums : jointerlaw01_ValueSums.Pure := by
  intro a b h0 h1
  have ha := i64_of h0
  have hb := i64_of h1
  refine ⟨42, ?_⟩
  obtain ⟨x1, e1⟩ := res_some (a + b)
  obtain ⟨x2, e2⟩ := res_some (a - b)
  obtain ⟨x3, e3⟩ := res_some (a * b)
  obtain ⟨x4, e4⟩ := rdiv_some a b
  obtain ⟨x5, e5⟩ := rmod_some a b
  unfold jointerlaw01_ValueSums.f
  rw [radd_is ha hb, add_is ha hb, sub_is ha hb, rsub_is ha hb, mul_is ha hb, rmul_is 40 ha hb, div_is ha hb, mod_is, e1, e2, e3, e4, e5, awake_at 2]
  simp only [Option.bind_some, sum_self, if_true]

theorem ValueDivides : jointerlaw01_ValueDivides.Pure := by
  intro a b h0 h1
  have ha := i64_of h0
  have hb := i64_of h1
  refine ⟨42, ?_⟩
  unfold jointerlaw01_ValueDivides.f
  rw [div_is ha hb, mod_is]
  by_cases hb0 : b = 0
  · subst hb0
    simp [jointerref01_Div.f, jointerref01_Mod.f, awake_at 2]
  · have ha' := ha; have hb' := hb
    unfold i64ok at ha' hb'
    by_cases hs : a = -9223372036854775808 ∧ b = -1
    · obtain ⟨rfl, rfl⟩ := hs
      simp [jointerref01_Div.f, jointerref01_Mod.f, jointerlaw01_ValueDivides.j0, jointerlaw01_ValueDivides.j1, awake_at 0]
    · have hd : jointerref01_Div.f a b = some (Int.tdiv a b, 0) := by
        have hok : i64ok (Int.tdiv a b) := by
          have h3 : (Int.tdiv a b).natAbs = a.natAbs / b.natAbs := Int.natAbs_tdiv _ _
          by_cases hb1 : b = 1
          · subst hb1; rw [Int.tdiv_one]; exact ha
          · by_cases hb2 : b = -1
            · subst hb2; rw [Int.tdiv_neg, Int.tdiv_one]; unfold i64ok; omega
            · have h4 : a.natAbs / b.natAbs ≤ a.natAbs / 2 := Nat.div_le_div_left (by omega) (by omega)
              unfold i64ok; omega
        unfold jointerref01_Div.f
        rw [if_neg hb0, wrap64_same hok]
        by_cases h2 : a = -9223372036854775808
        · rw [if_pos h2, if_neg (fun h => hs ⟨h2, h⟩)]
        · rw [if_neg h2]
      have hm : jointerref01_Mod.f a b = some (Int.tmod a b, 0) := by
        unfold jointerref01_Mod.f
        rw [if_neg hb0]
        by_cases h2 : b = -1
        · rw [if_pos h2]; subst h2; simp
        · rw [if_neg h2]
      rw [hd, hm]
      simp only [Option.bind_some]
      rw [if_neg hb0, if_pos trivial]
      have e := Int.tmod_add_mul_tdiv a b
      have hn : (Int.tmod a b).natAbs < b.natAbs := by
        rw [Int.natAbs_tmod]; exact Nat.mod_lt _ (Int.natAbs_pos.2 hb0)
      have hsg1 : 0 ≤ a → 0 ≤ Int.tmod a b := fun h => Int.tmod_nonneg b h
      have hsg2 : a < 0 → Int.tmod a b ≤ 0 := fun h => by
        have := Int.tmod_nonneg b (show 0 ≤ -a by omega)
        rw [Int.neg_tmod] at this; omega
      have hmul : i64ok (Int.tdiv a b * b) := by
        have : Int.tdiv a b * b = a - Int.tmod a b := by rw [Int.mul_comm]; omega
        rw [this]
        unfold i64ok
        by_cases h : 0 ≤ a
        · have := hsg1 h
          have h9 : (Int.tmod a b).natAbs ≤ a.natAbs := by rw [Int.natAbs_tmod]; exact Nat.mod_le _ _
          omega
        · have := hsg2 (by omega)
          have h9 : (Int.tmod a b).natAbs ≤ a.natAbs := by rw [Int.natAbs_tmod]; exact Nat.mod_le _ _
          omega
      have hq : i64ok (Int.tdiv a b) := by
        have h3 : (Int.tdiv a b).natAbs = a.natAbs / b.natAbs := Int.natAbs_tdiv _ _
        by_cases hb1 : b = 1
        · subst hb1; rw [Int.tdiv_one]; exact ha
        · by_cases hb2 : b = -1
          · subst hb2; rw [Int.tdiv_neg, Int.tdiv_one]; unfold i64ok; omega
          · have h4 : a.natAbs / b.natAbs ≤ a.natAbs / 2 := Nat.div_le_div_left (by omega) (by omega)
            unfold i64ok; omega
      have hr : i64ok (Int.tmod a b) := by unfold i64ok; omega
      have hlast : jointerlaw01_ValueDivides.j1 41 a b (Int.tdiv a b) 0 (Int.tmod a b) true = some true := by
        simp only [jointerlaw01_ValueDivides.j1]
        rw [if_pos trivial, mul_is hq hb]
        unfold res
        rw [if_pos hmul]
        simp only [Option.bind_some]
        rw [add_is hmul hr]
        have e2 : Int.tdiv a b * b + Int.tmod a b = a := by rw [Int.mul_comm]; omega
        rw [e2]
        unfold res
        rw [if_pos ha]
        simp [awake_at 0]
      have hstep : jointerlaw01_ValueDivides.j0 42 a b (Int.tdiv a b) 0 (Int.tmod a b) false = jointerlaw01_ValueDivides.j1 41 a b (Int.tdiv a b) 0 (Int.tmod a b) true := by
        simp only [jointerlaw01_ValueDivides.j0]
        rw [if_neg (by decide)]
        have hw : wrap64 (-(Int.tmod a b)) = -(Int.tmod a b) := wrap64_same (by unfold i64ok; omega)
        rw [hw]
        generalize Int.tmod a b = r at *
        (repeat' split) <;> first | rfl | (exfalso; omega) | (rw [decide_eq_true (by omega)])
      by_cases hr0 : Int.tmod a b = 0
      · rw [if_pos hr0, hstep, hlast]
      · rw [if_neg hr0]
        have hsame : ((decide (Int.tmod a b < 0)) != (decide (a < 0))) = false := by
          by_cases h : 0 ≤ a
          · have := hsg1 h
            rw [decide_eq_false (by omega), decide_eq_false (by omega)]; rfl
          · have := hsg2 (by omega)
            rw [decide_eq_true (by omega), decide_eq_true (by omega)]; rfl
        rw [hsame, hstep, hlast]
end Go.Proofs.YtafdoogghalpjaaGreatDoor.PAll
