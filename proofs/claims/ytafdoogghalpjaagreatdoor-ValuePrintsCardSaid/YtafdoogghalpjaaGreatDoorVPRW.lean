/- ValueReads and ValuePrints without Go and memory. -/
import Derived.Test.YtafdoogghalpjaaGreatDoorVPReads
set_option linter.unusedVariables false
namespace Go.Proofs.YtafdoogghalpjaaGreatDoor.PAll
open Go.RowKit Go.Proofs.YtafdoogghalpjaaGreatDoorW.PrintWords Go.Proofs.YtafdoogghalpjaaGreatDoorW.PrintLast Go.Proofs.YtafdoogghalpjaaGreatDoorW.PrintMore

theorem num_not {L : List UInt8} (h : IsNum L) (c : UInt8) (r : List UInt8) (h45 : c ≠ 45) (hd : dg c = false) : L ≠ c :: r := by
  rintro rfl
  have e : dgs (c :: r) = c :: r := by simp [dgs, h45]
  have := h.2.1 c (by rw [e]; simp)
  rw [hd] at this
  cases this
theorem quo_not {L : List UInt8} (m : List UInt8) (h : L = 39 :: (m ++ [39])) (c : UInt8) (r : List UInt8) (h39 : c ≠ 39) : L ≠ c :: r := by
  rintro rfl
  exact h39 (List.cons.inj h).1
theorem quo_num {L : List UInt8} (m : List UInt8) (h : L = 39 :: (m ++ [39])) : ¬ IsNum L := fun hn => num_not hn 39 (m ++ [39]) (by decide) (by decide) h
def numR (L : List UInt8) : Int × Int × ByteArray × Int := if i64ok (numV L) then (1, numV L, (⟨#[]⟩ : ByteArray), 0) else (0, 0, (⟨#[]⟩ : ByteArray), 4)
theorem vread_num (x : ByteArray) (hx : x.size ≤ 140737488351232) (h : IsNum x.data.toList) (k : Nat) : value_Read.f k x = some (numR x.data.toList) := by
  unfold value_Read.f value_Read.tail
  rw [if_pos hx, Lib.toList_data, if_neg (num_not h _ _ (by decide) (by decide)), if_neg (num_not h _ _ (by decide) (by decide)), if_neg (num_not h _ _ (by decide) (by decide))]
  have hp : ¬ (Lib.hasPrefix x.data.toList [39] = true) := by
    intro e
    cases hL : x.data.toList with
    | nil => rw [hL] at e; simp [Lib.hasPrefix] at e
    | cons c r =>
      rw [hL] at e
      have : (39 : UInt8) = c := by simpa [Lib.hasPrefix] using e
      exact num_not h 39 r (by decide) (by decide) (by rw [hL, this])
  have ht : ¬ (Lib.trimS (dgs x.data.toList) digitsSet.data.toList ≠ []) := by
    rw [Classical.not_not, trim_set]
    exact fun c hc => (digit_set c).2 (h.2.1 c hc)
  rw [if_neg hp, dgs_trim, if_neg h.1, if_neg ht, if_neg h.2.2, parse_is _ h.1 h.2.1]
  unfold numR
  by_cases ho : i64ok (numV x.data.toList)
  · rw [if_pos ho, if_pos ho]
  · rw [if_neg ho, if_neg ho]
theorem rread_num (x : ByteArray) (hx : x.size ≤ 140737488351232) (h : IsNum x.data.toList) (k : Nat) (hk : x.size + 4 ≤ k) : jointerref01_Read.f k x = some (numR x.data.toList) := by
  unfold jointerref01_Read.f
  obtain ⟨b, e, i⟩ := isNumber_is x (by omega) k hk
  have hb : b = true := i.2 h
  subst hb
  rw [Lib.toList_data, if_neg (num_not h _ _ (by decide) (by decide)), if_neg (num_not h _ _ (by decide) (by decide)), if_neg (num_not h _ _ (by decide) (by decide)), e]
  simp only [Option.bind_some]
  rw [if_pos trivial, number_is x (by omega) h k hk]
  unfold res numR
  by_cases ho : i64ok (numV x.data.toList)
  · rw [if_pos ho, if_pos ho]
    rfl
  · rw [if_neg ho, if_neg ho]
    rfl
def txtR (m : List UInt8) : Int × Int × ByteArray × Int := match unq m with
  | some y => if (y.length : Int) > 100 then (0, 0, (⟨#[]⟩ : ByteArray), 5) else (2, 0, ⟨y.toArray⟩, 0)
  | none => (0, 0, (⟨#[]⟩ : ByteArray), 1)
theorem suf_iff (T : List UInt8) : Lib.hasSuffix T [39] = true ↔ ∃ m, T = m ++ [39] := by
  unfold Lib.hasSuffix
  rw [List.isSuffixOf_iff_suffix]
  exact ⟨fun ⟨m, h⟩ => ⟨m, h.symm⟩, fun ⟨m, h⟩ => ⟨m, h.symm⟩⟩
theorem vread_text (x : ByteArray) (hx : x.size ≤ 140737488351232) (m : List UInt8) (hL : x.data.toList = 39 :: (m ++ [39])) (k : Nat) (hk : x.size + 2 ≤ k) : value_Read.f k x = some (txtR m) := by
  have hl : x.data.toList.length = x.size := by simp
  have hlen : x.size = m.length + 2 := by rw [← hl, hL]; simp
  unfold value_Read.f value_Read.tail
  rw [if_pos hx, Lib.toList_data, if_neg (quo_not m hL _ _ (by decide)), if_neg (quo_not m hL _ _ (by decide)), if_neg (quo_not m hL _ _ (by decide)), if_pos (by rw [hL]; simp [Lib.hasPrefix])]
  unfold value_readText.f
  rw [if_pos (by rw [ByteArray.size_extract]; omega), ex_tail, hL, List.tail_cons, if_pos ((suf_iff _).2 ⟨m, rfl⟩)]
  have e : Lib.trimSuffix (m ++ [39]) [39] = m := by
    unfold Lib.trimSuffix
    rw [if_pos ((suf_iff _).2 ⟨m, rfl⟩)]
    simp
  rw [e, readText_l m.length k m [] (Nat.le_refl _) (by omega)]
  unfold txtR
  cases unq m with
  | none => rfl
  | some y =>
    show value_Text.f ⟨([] ++ y).toArray⟩ = some (if (y.length : Int) > 100 then _ else _)
    unfold value_Text.f
    rw [List.nil_append, ba_size]
    split <;> rfl
theorem rread_text (x : ByteArray) (hx : x.size ≤ 140737488351232) (m : List UInt8) (hL : x.data.toList = 39 :: (m ++ [39])) (k : Nat) (hk : x.size + 4 ≤ k) : jointerref01_Read.f k x = some (txtR m) := by
  unfold jointerref01_Read.f
  obtain ⟨b, e, i⟩ := isNumber_is x (by omega) k hk
  have hb : b = false := by
    cases b with
    | false => rfl
    | true => exact absurd (i.1 rfl) (quo_num m hL)
  subst hb
  rw [Lib.toList_data, if_neg (quo_not m hL _ _ (by decide)), if_neg (quo_not m hL _ _ (by decide)), if_neg (quo_not m hL _ _ (by decide)), e]
  simp only [Option.bind_some]
  rw [if_neg (by simp), unquoted_yes x hx m hL k (by omega)]
  unfold txtR
  cases unq m with
  | none => rfl
  | some y =>
    simp only [Option.bind_some]
    rw [if_pos trivial]
    unfold jointerref01_Text.f
    rw [ba_size]
    split <;> rfl
theorem vread_other (x : ByteArray) (hx : x.size ≤ 140737488351232) (hn : ¬ IsNum x.data.toList) (hq : ¬ Quo x.data.toList) (h1 : x.data.toList ≠ [78, 85, 76, 76]) (h2 : x.data.toList ≠ [70, 65, 76, 83, 69]) (h3 : x.data.toList ≠ [84, 82, 85, 69]) (k : Nat) :
    value_Read.f k x = some (0, 0, (⟨#[]⟩ : ByteArray), 1) := by
  unfold value_Read.f value_Read.tail
  rw [if_pos hx, Lib.toList_data, if_neg h1, if_neg h2, if_neg h3]
  by_cases hp : Lib.hasPrefix x.data.toList [39] = true
  · rw [if_pos hp]
    unfold value_readText.f
    rw [if_pos (by rw [ByteArray.size_extract]; omega), ex_tail, if_neg]
    rw [suf_iff]
    rintro ⟨m, hm⟩
    cases hL : x.data.toList with
    | nil => rw [hL] at hp; simp [Lib.hasPrefix] at hp
    | cons c r =>
      rw [hL] at hp hm
      have hc : (39 : UInt8) = c := by simpa [Lib.hasPrefix] using hp
      exact hq ⟨m, by rw [hL, ← hc, ← hm]; rfl⟩
  · rw [if_neg hp, dgs_trim]
    by_cases a1 : dgs x.data.toList = []
    · rw [if_pos a1]
    · rw [if_neg a1]
      by_cases a2 : Lib.trimS (dgs x.data.toList) digitsSet.data.toList ≠ []
      · rw [if_pos a2]
      · rw [if_neg a2]
        have a2' := Classical.not_not.1 a2
        rw [trim_set] at a2'
        by_cases a3 : (dgs x.data.toList).head? = some 48 ∧ x.data.toList ≠ [48]
        · rw [if_pos a3]
        · exact absurd ⟨a1, fun c hc => (digit_set c).1 (a2' c hc), a3⟩ hn
theorem rread_other (x : ByteArray) (hx : x.size ≤ 140737488351232) (hn : ¬ IsNum x.data.toList) (hq : ¬ Quo x.data.toList) (h1 : x.data.toList ≠ [78, 85, 76, 76]) (h2 : x.data.toList ≠ [70, 65, 76, 83, 69]) (h3 : x.data.toList ≠ [84, 82, 85, 69]) (k : Nat) (hk : x.size + 4 ≤ k) :
    jointerref01_Read.f k x = some (0, 0, (⟨#[]⟩ : ByteArray), 1) := by
  unfold jointerref01_Read.f
  obtain ⟨b, e, i⟩ := isNumber_is x (by omega) k hk
  have hb : b = false := by
    cases b with
    | false => rfl
    | true => exact absurd (i.1 rfl) hn
  subst hb
  rw [Lib.toList_data, if_neg h1, if_neg h3, if_neg h2, e]
  simp only [Option.bind_some]
  rw [if_neg (by simp), unquoted_no x hx hq k (by omega)]
  rfl
end Go.Proofs.YtafdoogghalpjaaGreatDoor.PAll
