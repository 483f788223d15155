/- ValueCompares and ValueOrders without Go and memory. -/
import Derived.Test.YtafdoogghalpjaaGreatDoorVPCmp
import Derived.Test.YtafdoogghalpjaaGreatDoorVAwake
import Derived.Test.YtafdoogghalpjaaGreatDoorVLCompares
import Derived.Test.YtafdoogghalpjaaGreatDoorVLOrders
set_option linter.unusedVariables false
namespace Go.Proofs.YtafdoogghalpjaaGreatDoor.PAll
open Go.RowKit Go.Proofs.YtafdoogghalpjaaGreatDoorW.PrintWords Go.Proofs.YtafdoogghalpjaaGreatDoorW.PrintLast Go.Proofs.YtafdoogghalpjaaGreatDoorW.PrintMore
theorem awake_from {k : Nat} (h : 40 ≤ k) : jointerlaw01_awake.f k = some true := by
  obtain ⟨d, rfl⟩ : ∃ d, k = 40 + d := ⟨k - 40, by omega⟩
  induction d with
  | zero => exact jointerlaw01_awake.is_true
  | succ d ih => exact jointerlaw01_awake.mono _ _ (ih (by omega))

theorem ValueCompares (k1 n1 : Int) (s1 : ByteArray) (k2 n2 : Int) (s2 : ByteArray) (hk1 : 0 ≤ k1 ∧ k1 ≤ 255) (hk2 : 0 ≤ k2 ∧ k2 ≤ 255) (hs : s1.size ≤ 9223372036854775807) :
    jointerlaw01_ValueCompares.f (2 * s1.size + 103) k1 n1 s1 k2 n2 s2 = some true := by
  unfold jointerlaw01_ValueCompares.f
  rw [rcompare_is (2 * s1.size + 102) k1 n1 s1 k2 n2 s2 hk1 hk2 hs (by omega), compare_is (2 * s1.size + 99)]
  simp only [Option.bind_some]
  rw [if_pos trivial, awake_from (by omega)]; rfl

theorem valid_parts {k n : Int} {s : ByteArray} (h : value_Valid.f k n s = some true) : k = 0 ∧ n = 0 ∧ s.toList = [] ∨ k = 1 ∧ s.toList = [] ∨ k = 2 ∧ n = 0 ∨ k = 3 ∧ s.toList = [] := by
  unfold value_Valid.f at h
  by_cases h0 : k = 0
  · rw [if_pos h0] at h
    have := Option.some.inj h
    simp at this
    exact Or.inl ⟨h0, this.2.1, by simpa using this.2.2⟩
  · rw [if_neg h0] at h
    by_cases h1 : k = 1
    · rw [if_pos h1] at h; have := Option.some.inj h; exact Or.inr (Or.inl ⟨h1, by simpa using this⟩)
    · rw [if_neg h1] at h
      by_cases h2 : k = 2
      · rw [if_pos h2] at h
        split at h
        · rename_i hn; exact Or.inr (Or.inr (Or.inl ⟨h2, hn⟩))
        · cases h
      · rw [if_neg h2] at h
        by_cases h3 : k = 3
        · rw [if_pos h3] at h
          split at h
          · rename_i hn; exact Or.inr (Or.inr (Or.inr ⟨h3, hn⟩))
          · cases h
        · rw [if_neg h3] at h; cases h
theorem same_is {k1 n1 : Int} {s1 : ByteArray} {k2 n2 : Int} {s2 : ByteArray} (h1 : value_Valid.f k1 n1 s1 = some true) (h2 : value_Valid.f k2 n2 s2 = some true) :
    jointerref01_Same.f k1 n1 s1 k2 n2 s2 = some (vcmp k1 n1 s1.data.toList k2 n2 s2.data.toList == 0) := by
  have p1 := valid_parts h1
  have p2 := valid_parts h2
  rw [Lib.toList_data] at p1 p2
  have q := @cmpI_zero n1 n2
  have q2 := @cmpI_zero k1 k2
  have q3 := @cB_zero s1.data.toList s2.data.toList
  unfold jointerref01_Same.f vcmp
  rw [Lib.toList_data, Lib.toList_data]
  by_cases hk : k1 = k2
  · subst hk
    rw [if_pos rfl, if_pos rfl]
    rcases p1 with ⟨rfl, rfl, e1⟩ | ⟨rfl, e1⟩ | ⟨rfl, rfl⟩ | ⟨rfl, e1⟩
    · rcases p2 with ⟨_, rfl, e2⟩ | ⟨c, _⟩ | ⟨c, _⟩ | ⟨c, _⟩
      · simp [e1, e2]
      all_goals omega
    · rcases p2 with ⟨c, _⟩ | ⟨_, e2⟩ | ⟨c, _⟩ | ⟨c, _⟩
      · omega
      · rw [if_neg (show ¬((1 : Int) = 0) by decide), if_pos (show (1 : Int) = 1 ∨ (1 : Int) = 3 from Or.inl rfl), e1, e2]
        by_cases hn : n1 = n2
        · rw [if_pos hn, q.mpr hn]; rfl
        · rw [if_neg hn, beq_eq_false_iff_ne.mpr (fun e => hn (q.mp e))]
      all_goals omega
    · rcases p2 with ⟨c, _⟩ | ⟨c, _⟩ | ⟨_, rfl⟩ | ⟨c, _⟩
      · omega
      · omega
      · rw [if_pos rfl, if_neg (show ¬((2 : Int) = 0) by decide), if_neg (show ¬((2 : Int) = 1 ∨ (2 : Int) = 3) by decide), if_pos rfl]
        congr 1
        rw [Bool.eq_iff_iff, beq_iff_eq, beq_iff_eq]; exact q3.symm
      · omega
    · rcases p2 with ⟨c, _⟩ | ⟨c, _⟩ | ⟨c, _⟩ | ⟨_, e2⟩
      · omega
      · omega
      · omega
      · rw [if_neg (show ¬((3 : Int) = 0) by decide), if_pos (show (3 : Int) = 1 ∨ (3 : Int) = 3 from Or.inr rfl), e1, e2]
        by_cases hn : n1 = n2
        · rw [if_pos hn, q.mpr hn]; rfl
        · rw [if_neg hn, beq_eq_false_iff_ne.mpr (fun e => hn (q.mp e))]
  · rw [if_neg hk, if_neg hk, beq_eq_false_iff_ne.mpr (fun e => hk (q2.mp e))]

theorem valid_some (k n : Int) (s : ByteArray) : ∃ b, value_Valid.f k n s = some b := by
  unfold value_Valid.f; (repeat' split) <;> exact ⟨_, rfl⟩

theorem ValueOrders (k1 n1 : Int) (s1 : ByteArray) (k2 n2 : Int) (s2 : ByteArray) (k3 n3 : Int) (s3 : ByteArray) :
    jointerlaw01_ValueOrders.f 100 k1 n1 s1 k2 n2 s2 k3 n3 s3 = some true := by
  unfold jointerlaw01_ValueOrders.f
  rw [compare_is 96, compare_is 96, compare_is 96, compare_is 96, compare_is 96]
  simp only [Option.bind_some]
  have hr := vcmp_range k1 n1 s1.data.toList k2 n2 s2.data.toList
  have hn := vcmp_neg k1 n1 s1.data.toList k2 n2 s2.data.toList
  have t1 := @vcmp_trans k1 n1 s1.data.toList k2 n2 s2.data.toList k3 n3 s3.data.toList
  have t2 := @vcmp_trans k3 n3 s3.data.toList k1 n1 s1.data.toList k2 n2 s2.data.toList
  have t3 := @vcmp_trans k2 n2 s2.data.toList k3 n3 s3.data.toList k1 n1 s1.data.toList
  have m1 := vcmp_neg k3 n3 s3.data.toList k1 n1 s1.data.toList
  have m2 := vcmp_neg k3 n3 s3.data.toList k2 n2 s2.data.toList
  have m3 := vcmp_neg k2 n2 s2.data.toList k1 n1 s1.data.toList
  rw [if_pos (by unfold wrap64; omega), vcmp_self]
  have last : jointerlaw01_ValueOrders.j1 99 (vcmp k1 n1 s1.data.toList k2 n2 s2.data.toList) false k1 n1 s1 k2 n2 s2 = some true := by
    simp only [jointerlaw01_ValueOrders.j1]
    rw [if_neg (by decide)]
    obtain ⟨b1, e1⟩ := valid_some k1 n1 s1
    obtain ⟨b2, e2⟩ := valid_some k2 n2 s2
    rw [e1, e2]
    simp only [Option.bind_some]
    have ha : jointerlaw01_awake.f 98 = some true := awake_from (by omega)
    cases b1 with
    | false => rw [if_neg (by decide), ha]; rfl
    | true =>
      rw [if_pos rfl]
      cases b2 with
      | false => rw [if_neg (by decide), ha]; rfl
      | true =>
        rw [if_pos rfl, same_is e1 e2]
        simp only [Option.bind_some]
        rw [if_neg (by simp), ha]; rfl
  simp only [jointerlaw01_ValueOrders.j0]
  rw [if_neg (by decide)]
  generalize vcmp k1 n1 s1.data.toList k2 n2 s2.data.toList = x at *
  generalize vcmp k2 n2 s2.data.toList k3 n3 s3.data.toList = y at *
  generalize vcmp k1 n1 s1.data.toList k3 n3 s3.data.toList = z at *
  generalize vcmp k3 n3 s3.data.toList k1 n1 s1.data.toList = z' at *
  generalize vcmp k3 n3 s3.data.toList k2 n2 s2.data.toList = y' at *
  generalize vcmp k2 n2 s2.data.toList k1 n1 s1.data.toList = x' at *
  by_cases hx : x ≤ 0
  · rw [if_pos hx]
    by_cases hy : y ≤ 0
    · rw [if_pos hy, if_neg (by have := t1 hx hy; omega)]
      by_cases hz : z = 0
      · rw [if_pos hz, if_neg (by have := t3 hy (by omega); omega), decide_eq_false (by have := t2 (by omega) hx; omega)]; exact last
      · rw [if_neg hz]; exact last
    · rw [if_neg hy]; exact last
  · rw [if_neg hx]; exact last
end Go.Proofs.YtafdoogghalpjaaGreatDoor.PAll
namespace Go.Proofs.YtafdoogghalpjaaGreatDoor.PAll
theorem u8_of {a : Int} (h : (Lit.int .u8 a).wf = true) : 0 ≤ a ∧ a ≤ 255 := by
  simpa [Lit.wf, IntKind.min, IntKind.max, IntKind.bits, IntKind.signed] using h
end Go.Proofs.YtafdoogghalpjaaGreatDoor.PAll
