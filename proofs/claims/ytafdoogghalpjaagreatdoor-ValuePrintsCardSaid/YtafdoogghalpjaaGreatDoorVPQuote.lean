/- Quoting without Go and memory: a byte ' is doubled; what is read back. The kit's replaceAll and cut at one byte ' held against it. -/
import Derived.Test.YtafdoogghalpjaaGreatDoorVFp
import Derived.Test.YtafdoogghalpjaaGreatDoorVReadText
import Derived.Test.YtafdoogghalpjaaGreatDoorVPCmp
import Derived.Lib.IndexBytes
import Derived.Lib.IndexMore
import Derived.Lib.Replace
set_option linter.unusedVariables false
namespace Go.Proofs.YtafdoogghalpjaaGreatDoor.PAll
open Go.RowKit Go.Proofs.YtafdoogghalpjaaGreatDoorW.PrintWords Go.Proofs.YtafdoogghalpjaaGreatDoorW.PrintLast Go.Proofs.YtafdoogghalpjaaGreatDoorW.PrintMore

def qt : List UInt8 → List UInt8
  | [] => []
  | c :: t => if c = 39 then 39 :: 39 :: qt t else c :: qt t
/-- What is read back of doubled bytes. -/
def unq : List UInt8 → Option (List UInt8)
  | [] => some []
  | [c] => if c = 39 then none else some [c]
  | c :: d :: t => if c = 39 then (if d = 39 then (unq t).map (39 :: ·) else none) else (unq (d :: t)).map (c :: ·)
theorem unq_cons (c : UInt8) (t : List UInt8) (h : c ≠ 39) : unq (c :: t) = (unq t).map (c :: ·) := by
  cases t with
  | nil => simp [unq, h]
  | cons d t => simp [unq, h]
theorem unq_two (t : List UInt8) : unq (39 :: 39 :: t) = (unq t).map (39 :: ·) := by simp [unq]
theorem unq_bad (d : UInt8) (t : List UInt8) (h : d ≠ 39) : unq (39 :: d :: t) = none := by simp [unq, h]
theorem unq_last : unq [39] = none := by simp [unq]
theorem unq_qt : ∀ l : List UInt8, unq (qt l) = some l
  | [] => rfl
  | c :: t => by
    unfold qt
    by_cases h : c = 39
    · rw [if_pos h, unq_two, unq_qt t, h]; rfl
    · rw [if_neg h, unq_cons _ _ h, unq_qt t]; rfl
theorem qt_of_unq : ∀ (n : Nat) (l x : List UInt8), l.length ≤ n → unq l = some x → qt x = l
  | _, [], x, _, h => by simp [unq] at h; subst h; rfl
  | n + 1, c :: t, x, hn, h => by
    by_cases hc : c = 39
    · subst hc
      cases t with
      | nil => rw [unq_last] at h; cases h
      | cons d t =>
        by_cases hd : d = 39
        · subst hd
          rw [unq_two] at h
          obtain ⟨y, hy, rfl⟩ := Option.map_eq_some_iff.1 h
          have := qt_of_unq n t y (by simp at hn; omega) hy
          simp [qt, this]
        · rw [unq_bad _ _ hd] at h; cases h
    · rw [unq_cons _ _ hc] at h
      obtain ⟨y, hy, rfl⟩ := Option.map_eq_some_iff.1 h
      have := qt_of_unq n t y (by simp at hn; omega) hy
      simp [qt, this, hc]
theorem qt_len : ∀ l : List UInt8, (qt l).length ≤ 2 * l.length
  | [] => by simp [qt]
  | c :: t => by
    have := qt_len t
    unfold qt
    split <;> simp <;> omega

/-! ### Index and cut at one byte -/
theorem ix_nil (c : UInt8) : Lib.index [] [c] = -1 := by rw [Lib.index_one]; rfl
theorem ix_hit (c : UInt8) (t : List UInt8) : Lib.index (c :: t) [c] = 0 := by rw [Lib.index_one]; simp [Lib.indexByte]
theorem ix_miss (c d : UInt8) (t : List UInt8) (h : d ≠ c) : Lib.index (d :: t) [c] = if Lib.index t [c] = -1 then -1 else Lib.index t [c] + 1 := by
  rw [Lib.index_one, Lib.index_one]; simp [Lib.indexByte, h]
theorem ix_spec : ∀ s : List UInt8, (Lib.index s [39] = -1 ∧ (39 : UInt8) ∉ s) ∨ ∃ a b, s = a ++ 39 :: b ∧ (39 : UInt8) ∉ a ∧ Lib.index s [39] = (a.length : Int)
  | [] => .inl ⟨ix_nil _, by simp⟩
  | d :: t => by
    by_cases hd : d = 39
    · subst hd
      exact .inr ⟨[], t, rfl, by simp, by rw [ix_hit]; rfl⟩
    · rw [ix_miss _ _ _ hd]
      rcases ix_spec t with ⟨h1, h2⟩ | ⟨a, b, h1, h2, h3⟩
      · rw [if_pos h1]
        exact .inl ⟨rfl, by simp [h2]; exact fun e => hd e.symm⟩
      · refine .inr ⟨d :: a, b, by rw [h1]; rfl, by simp [h2]; exact fun e => hd e.symm, ?_⟩
        rw [h3, if_neg (by omega)]
        simp
theorem qt_none : ∀ s : List UInt8, (39 : UInt8) ∉ s → qt s = s
  | [], _ => rfl
  | c :: t, h => by
    have h1 : c ≠ 39 := fun e => h (by simp [e])
    have h2 : (39 : UInt8) ∉ t := fun e => h (by simp [e])
    simp [qt, h1, qt_none t h2]
theorem qt_app : ∀ a b : List UInt8, (39 : UInt8) ∉ a → qt (a ++ b) = a ++ qt b
  | [], b, _ => rfl
  | c :: t, b, h => by
    have h1 : c ≠ 39 := fun e => h (by simp [e])
    have h2 : (39 : UInt8) ∉ t := fun e => h (by simp [e])
    simp [qt, h1, qt_app t b h2]
theorem unq_app : ∀ a b : List UInt8, (39 : UInt8) ∉ a → unq (a ++ b) = (unq b).map (a ++ ·)
  | [], b, _ => by simp
  | c :: t, b, h => by
    have h1 : c ≠ 39 := fun e => h (by simp [e])
    have h2 : (39 : UInt8) ∉ t := fun e => h (by simp [e])
    rw [List.cons_append, unq_cons _ _ h1, unq_app t b h2, Option.map_map]
    rfl
theorem replK : ∀ (k : Nat) (s : List UInt8), s.count 39 ≤ k → Lib.replaceK [39] [39, 39] k s = qt s
  | 0, s, h => by
    have : (39 : UInt8) ∉ s := List.count_eq_zero.1 (by omega)
    rw [qt_none _ this]; rfl
  | k + 1, s, h => by
    unfold Lib.replaceK
    rcases ix_spec s with ⟨h1, h2⟩ | ⟨a, b, h1, h2, h3⟩
    · rw [h1, if_pos (by decide), qt_none _ h2]
    · rw [h3, if_neg (by simp)]
      have hb : b.count 39 ≤ k := by
        have e := congrArg (List.count 39) h1
        rw [List.count_append, List.count_cons_self] at e
        omega
      rw [show ((a.length : Int)).toNat = a.length by omega, h1, qt_app _ _ h2]
      have e1 : (a ++ 39 :: b).take a.length = a := by simp
      have e2 : (a ++ 39 :: b).drop (a.length + ([39] : List UInt8).length) = b := by
        rw [show a.length + ([39] : List UInt8).length = a.length + 1 by rfl, ← List.drop_drop]; simp
      rw [e1, e2, replK k b hb]
      simp [qt]
theorem replaceAll_qt (s : List UInt8) : Lib.replaceAll s [39] [39, 39] = qt s := by
  unfold Lib.replaceAll Lib.replace
  rw [if_neg (by decide)]
  refine replK _ _ ?_
  unfold Lib.replaceNum
  rw [if_pos (by left; decide), Lib.count_one]
  exact Nat.le_refl _
theorem cut_none (s : List UInt8) (h : (39 : UInt8) ∉ s) : Lib.cut s [39] = (s, [], false) := by
  unfold Lib.cut
  rcases ix_spec s with ⟨h1, _⟩ | ⟨a, b, h1, h2, h3⟩
  · rw [h1, if_neg (by decide)]
  · exact absurd (by rw [h1]; simp) h
theorem cut_hit (a b : List UInt8) (h : (39 : UInt8) ∉ a) : Lib.cut (a ++ 39 :: b) [39] = (a, b, true) := by
  have hi : Lib.index (a ++ 39 :: b) [39] = (a.length : Int) := by
    induction a with
    | nil => exact ix_hit _ _
    | cons c t ih =>
      have h1 : c ≠ 39 := fun e => h (by simp [e])
      have h2 : (39 : UInt8) ∉ t := fun e => h (by simp [e])
      rw [List.cons_append, ix_miss _ _ _ h1, ih h2, if_neg (by omega)]
      simp
  unfold Lib.cut
  rw [hi, if_pos (by omega), show ((a.length : Int)).toNat = a.length by omega]
  have e1 : (a ++ 39 :: b).take a.length = a := by simp
  have e2 : (a ++ 39 :: b).drop (a.length + ([39] : List UInt8).length) = b := by
    rw [show a.length + ([39] : List UInt8).length = a.length + 1 by rfl, ← List.drop_drop]; simp
  rw [e1, e2]
theorem split39 (s : List UInt8) (h : (39 : UInt8) ∈ s) : ∃ a b, s = a ++ 39 :: b ∧ (39 : UInt8) ∉ a := by
  rcases ix_spec s with ⟨_, h2⟩ | ⟨a, b, h1, h2, _⟩
  · exact absurd h h2
  · exact ⟨a, b, h1, h2⟩
/-- The program's reading of the inside of a literal. -/
theorem readText_l : ∀ (n k : Nat) (l o : List UInt8), l.length ≤ n → l.length < k →
    value_readText.l k l o = match unq l with | some x => value_Text.f ⟨(o ++ x).toArray⟩ | none => some (0, 0, (⟨#[]⟩ : ByteArray), 1)
  | n, 0, l, o, _, hk => by omega
  | n, k + 1, l, o, hn, hk => by
    by_cases h39 : (39 : UInt8) ∈ l
    · obtain ⟨a, b, rfl, ha⟩ := split39 l h39
      unfold value_readText.l
      rw [cut_hit _ _ ha, unq_app _ _ ha]
      simp only [Bool.true_eq_false, if_false]
      cases b with
      | nil => rw [unq_last]; simp [Lib.hasPrefix]
      | cons d t =>
        by_cases hd : d = 39
        · subst hd
          rw [unq_two, if_pos (by simp [Lib.hasPrefix])]
          have e : Lib.trimPrefix (39 :: t) [39] = t := by simp [Lib.trimPrefix, Lib.hasPrefix]
          rw [e]
          cases n with
          | zero => simp at hn
          | succ n =>
            rw [readText_l n k t _ (by simp at hn; omega) (by simp at hk; omega)]
            cases unq t with
            | none => rfl
            | some x => simp
        · rw [unq_bad _ _ hd, if_neg (by simp [Lib.hasPrefix]; exact fun e => hd e.symm)]
          rfl
    · unfold value_readText.l
      rw [cut_none _ h39]
      have := unq_app l [] h39
      simp only [List.append_nil, unq, Option.map_some] at this
      rw [this]
      simp
/-! ### The reference's loops -/
theorem ba_push (o : List UInt8) (x : ByteArray) (i : Nat) (h : i < x.data.toList.length) : (⟨o.toArray⟩ : ByteArray) ++ x.extract (i : Int).toNat (((i + 1 : Nat) : Int)).toNat = ⟨(o ++ [x.data.toList[i]]).toArray⟩ := by
  rw [Int.toNat_natCast, Int.toNat_natCast]
  apply ByteArray.ext
  have e : (x.extract i (i + 1)).data.toList = [x.data.toList[i]] := by
    simp only [ByteArray.data_extract, Array.toList_extract, List.extract_eq_take_drop]
    rw [List.drop_eq_getElem_cons h]
    simp
  apply Array.toList_inj.1
  rw [ByteArray.data_append, Array.toList_append, e]
theorem ba_one (o : List UInt8) (c : UInt8) : (⟨o.toArray⟩ : ByteArray) ++ (⟨#[c]⟩ : ByteArray) = ⟨(o ++ [c]).toArray⟩ := by
  apply ByteArray.ext
  apply Array.toList_inj.1
  rw [ByteArray.data_append, Array.toList_append]
theorem ba_size (o : List UInt8) : (⟨o.toArray⟩ : ByteArray).size = o.length := by simp [ByteArray.size]
theorem ex_size (x : ByteArray) (i : Nat) (h : i < x.size) : (x.extract (i : Int).toNat (((i + 1 : Nat) : Int)).toNat).size = 1 := by
  rw [Int.toNat_natCast, Int.toNat_natCast, ByteArray.size_extract]; omega
theorem quoted_l (x : ByteArray) (hx : x.size ≤ 1000000) : ∀ (m k i : Nat) (o : List UInt8), i + m = x.size → o.length ≤ 2 * i + 1 → m < k →
    jointerref01_quoted.l0 k x ⟨o.toArray⟩ (i : Int) = some ⟨(o ++ qt (x.data.toList.drop i) ++ [39]).toArray⟩
  | m, 0, i, o, _, _, hk => by omega
  | 0, k + 1, i, o, hi, ho, hk => by
    have hl : x.data.toList.length = x.size := by simp
    unfold jointerref01_quoted.l0
    rw [if_neg (by omega), if_pos (by rw [ba_size]; omega), ba_one, List.drop_eq_nil_of_le (by omega)]
    simp [qt]
  | m + 1, k + 1, i, o, hi, ho, hk => by
    have hl : x.data.toList.length = x.size := by simp
    have hlt : i < x.data.toList.length := by omega
    unfold jointerref01_quoted.l0
    rw [if_pos (by omega), if_pos (by omega), bt_list x i hlt, wrap_step (n := x.size) (by omega) (by omega), List.drop_eq_getElem_cons hlt]
    by_cases hc : x.data.toList[i] = 39
    · rw [if_pos (by rw [hc]; rfl), if_pos (by rw [ba_size]; omega), if_pos (by omega), if_pos (by omega), ba_one, if_pos (by rw [ba_size, ex_size x i (by omega)]; simp; omega), ba_push _ _ _ hlt,
        quoted_l x hx m k (i + 1) _ (by omega) (by simp; omega) (by omega)]
      simp [qt, hc]
    · have hc' : ¬ (((x.data.toList[i]).toNat : Int) = 39) := fun e => hc (UInt8.toNat_inj.mp (by show (x.data.toList[i]).toNat = 39; omega))
      rw [if_neg hc', if_pos (by omega), if_pos (by omega), if_pos (by rw [ba_size, ex_size x i (by omega)]; omega), ba_push _ _ _ hlt,
        quoted_l x hx m k (i + 1) _ (by omega) (by simp; omega) (by omega)]
      simp only [qt, if_neg hc]
      simp
theorem quoted_is (x : ByteArray) (hx : x.size ≤ 1000000) (k : Nat) (hk : x.size < k) : jointerref01_quoted.f k x = some ⟨([39] ++ qt x.data.toList ++ [39]).toArray⟩ := by
  unfold jointerref01_quoted.f
  exact quoted_l x hx x.size k 0 [39] (by omega) (by simp) hk
end Go.Proofs.YtafdoogghalpjaaGreatDoor.PAll
