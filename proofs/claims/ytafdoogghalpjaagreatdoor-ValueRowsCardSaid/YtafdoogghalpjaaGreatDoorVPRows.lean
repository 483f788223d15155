/- ValueRows without Go and memory: rows are compared value by value. -/
import Derived.Test.YtafdoogghalpjaaGreatDoorVPOrd
import Derived.Test.YtafdoogghalpjaaGreatDoorVLRows
set_option linter.unusedVariables false
namespace Go.Proofs.YtafdoogghalpjaaGreatDoor.PAll
open Go.RowKit Go.Proofs.YtafdoogghalpjaaGreatDoorW.PrintWords Go.Proofs.YtafdoogghalpjaaGreatDoorW.PrintLast Go.Proofs.YtafdoogghalpjaaGreatDoorW.PrintMore

def vc (a b : S24) : Int := vcmp a.f0 a.f1 a.f2.data.toList b.f0 b.f1 b.f2.data.toList
def rcmp : List S24 → List S24 → Int
  | [], [] => 0
  | [], _ :: _ => -1
  | _ :: _, [] => 1
  | a :: as_, b :: bs => if vc a b = 0 then rcmp as_ bs else vc a b
/-- A value as it can come in: its kind is a byte, its text has at most 2^63 - 1 bytes. -/
def Good (a : S24) : Prop := (0 ≤ a.f0 ∧ a.f0 ≤ 255) ∧ a.f2.size ≤ 9223372036854775807

theorem rd_at (xs : List S24) (i : Nat) (h : i < xs.length) : rd_T24 xs (i : Int) = xs[i] := by
  unfold rd_T24; rw [Int.toNat_natCast, List.getD_eq_getElem?_getD, List.getElem?_eq_getElem h]; rfl
theorem wrap_big {i n : Nat} (h : i < n) (hn : n ≤ 4398046511104) : wrap64 ((i : Int) + 1) = ((i + 1 : Nat) : Int) := by
  unfold wrap64; omega

theorem cf_l0 (l0 l1 : List S24) (h0 : l0.length ≤ 4398046511104) : ∀ (d i k : Nat), l0.length - i = d → i ≤ l0.length → d + 6 ≤ k → (i ≤ l1.length ∨ False) →
    slices_CompareFunc.l0 k l0 l1 l0 (l0.length : Int) (i : Int) = some (rcmp (l0.drop i) (l1.drop i)) := by
  intro d
  induction d with
  | zero =>
    intro i k hd hi hk h1
    obtain ⟨k, rfl⟩ : ∃ m, k = m + 1 := ⟨k - 1, by omega⟩
    have : i = l0.length := by omega
    subst this
    simp only [slices_CompareFunc.l0]
    rw [if_neg (by omega), List.drop_length]
    have h1 := h1.resolve_right (fun h => h)
    by_cases h : l0.length < l1.length
    · rw [if_pos (by omega), List.drop_eq_getElem_cons h]; rfl
    · rw [if_neg (by omega), List.drop_of_length_le (by omega)]; rfl
  | succ d ih =>
    intro i k hd hi hk h1
    obtain ⟨k, rfl⟩ : ∃ m, k = m + 1 := ⟨k - 1, by omega⟩
    have h1 := h1.resolve_right (fun h => h)
    have hl : i < l0.length := by omega
    simp only [slices_CompareFunc.l0]
    rw [if_pos (by omega), if_pos (by omega), if_pos (by omega), List.drop_eq_getElem_cons hl]
    by_cases h : i < l1.length
    · rw [if_neg (by omega), if_pos (by omega), rd_at l0 i hl, rd_at l1 i h, List.drop_eq_getElem_cons h]
      obtain ⟨q, rfl⟩ : ∃ m, k = m + 4 := ⟨k - 4, by omega⟩
      rw [compare_is q]
      simp only [Option.bind_some, rcmp]
      show (if vc l0[i] l1[i] = 0 then _ else _) = _
      by_cases hz : vc l0[i] l1[i] = 0
      · rw [if_pos hz, if_pos hz, wrap_big hl h0]
        exact ih (i + 1) (q + 4) (by omega) (by omega) (by omega) (Or.inl (by omega))
      · rw [if_neg hz, if_neg hz]; rfl
    · rw [if_pos (by omega), List.drop_of_length_le (by omega : l1.length ≤ i)]; rfl

def most (l : List S24) : Nat := l.foldr (fun a m => max a.f2.size m) 0
theorem most_le : ∀ (l : List S24) (i : Nat) (h : i < l.length), (l[i]).f2.size ≤ most l
  | [], i, h => by simp at h
  | a :: l, 0, _ => by simp only [most, List.foldr, List.getElem_cons_zero]; exact Nat.le_max_left _ _
  | a :: l, i + 1, h => by
    have := most_le l i (by simpa using h)
    simp only [List.getElem_cons_succ]
    exact Nat.le_trans this (by simp only [most, List.foldr]; exact Nat.le_max_right _ _)

theorem rr_l0 (l0 l1 : List S24) (h0 : l0.length ≤ 4398046511104) (g0 : ∀ a ∈ l0, Good a) (g1 : ∀ a ∈ l1, Good a) (hm1 : l1.length ≤ 4398046511104) : ∀ (d i k : Nat), l0.length - i = d → i ≤ l0.length → i ≤ l1.length → 2 * d + 2 * most l0 + 8 ≤ k →
    jointerref01_CompareRows.l0 k l0 l1 (i : Int) = some (rcmp (l0.drop i) (l1.drop i)) := by
  intro d
  induction d with
  | zero =>
    intro i k hd hi h1 hk
    obtain ⟨k, rfl⟩ : ∃ m, k = m + 2 := ⟨k - 2, by omega⟩
    have : i = l0.length := by omega
    subst this
    simp only [jointerref01_CompareRows.l0]
    rw [if_neg (by omega), List.drop_length]
    simp only [jointerref01_CompareRows.j1]
    rw [if_neg (by decide), ints_is]
    by_cases h : l0.length < l1.length
    · rw [List.drop_eq_getElem_cons h]
      simp only [Option.bind_some, rcmp, cmpI]; rw [if_pos (by omega)]
    · rw [List.drop_of_length_le (by omega)]
      simp only [Option.bind_some, rcmp, cmpI]; rw [if_neg (by omega), if_neg (by omega)]
  | succ d ih =>
    intro i k hd hi h1 hk
    obtain ⟨k, rfl⟩ : ∃ m, k = m + 2 := ⟨k - 2, by omega⟩
    have hl : i < l0.length := by omega
    simp only [jointerref01_CompareRows.l0]
    rw [if_pos (by omega), List.drop_eq_getElem_cons hl]
    by_cases h : i < l1.length
    · rw [decide_eq_true (by omega)]
      simp only [jointerref01_CompareRows.j1]
      rw [if_pos trivial, if_pos (by omega), if_pos (by omega), if_pos (by omega), rd_at l0 i hl, rd_at l1 i h, List.drop_eq_getElem_cons h]
      have ga := g0 _ (List.getElem_mem hl)
      have gb := g1 _ (List.getElem_mem h)
      have hms := most_le l0 i hl
      obtain ⟨q, rfl⟩ : ∃ m, k = m + 1 := ⟨k - 1, by omega⟩
      rw [rcompare_is q _ _ _ _ _ _ ga.1 gb.1 ga.2 (by omega)]
      simp only [Option.bind_some, rcmp]
      show (if vc l0[i] l1[i] = 0 then _ else _) = _
      by_cases hz : vc l0[i] l1[i] = 0
      · rw [if_pos hz, if_pos hz, wrap_big hl h0]
        exact ih (i + 1) (q + 1) (by omega) (by omega) (by omega) (by omega)
      · rw [if_neg hz, if_neg hz]; rfl
    · rw [decide_eq_false (by omega)]
      simp only [jointerref01_CompareRows.j1]
      rw [if_neg (by decide), ints_is, List.drop_of_length_le (by omega : l1.length ≤ i)]
      simp only [Option.bind_some, rcmp, cmpI]; rw [if_neg (by omega), if_pos (by omega)]

theorem ValueRows (l0 l1 : List S24) (k n : Int) (s : ByteArray) (h0 : l0.length ≤ 4398046511000) (h1 : l1.length ≤ 4398046511000) (g0 : ∀ a ∈ l0, Good a) (g1 : ∀ a ∈ l1, Good a) :
    jointerlaw01_ValueRows.f (2 * l0.length + 2 * most l0 + 60) l0 l1 k n s = some true := by
  unfold jointerlaw01_ValueRows.f value_CompareRows.f slices_CompareFunc.f jointerref01_CompareRows.f
  have e1 := rr_l0 l0 l1 (by omega) g0 g1 (by omega) l0.length 0 (2 * l0.length + 2 * most l0 + 60) (by omega) (by omega) (by omega) (by omega)
  have e2 := cf_l0 l0 l1 (by omega) l0.length 0 (2 * l0.length + 2 * most l0 + 60) (by omega) (by omega) (by omega) (Or.inl (by omega))
  have e3 := cf_l0 ([(⟨k, n, s⟩ : S24)] ++ l0) ([(⟨k, n, s⟩ : S24)] ++ l1) (by simp; omega) (l0.length + 1) 0 (2 * l0.length + 2 * most l0 + 60) (by simp) (by omega) (by omega) (Or.inl (by omega))
  rw [show ((0 : Nat) : Int) = 0 from rfl] at e1 e2 e3
  rw [e1]
  simp only [Option.bind_some]
  rw [if_pos (by simp; omega), if_pos (by simp; omega), e2]
  simp only [Option.bind_some]
  rw [if_pos trivial, e3]
  simp only [Option.bind_some, List.drop_zero, List.singleton_append, rcmp]
  have hself : vc ⟨k, n, s⟩ ⟨k, n, s⟩ = 0 := vcmp_self _ _ _
  rw [if_pos hself, if_pos rfl, awake_from (by omega)]
  rfl
end Go.Proofs.YtafdoogghalpjaaGreatDoor.PAll
