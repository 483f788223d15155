/- LexTokens without Go and memory: the reference's tokens are Tokens' tokens. -/
import Derived.Test.YtaibkpbiccibjaaDoorLPRefB
import Derived.Test.YtaibkpbiccibjaaDoorLLTokens
set_option linter.unusedVariables false
namespace Go.Proofs.YtaibkpbiccibjaaDoor.PAll
open Go.RowKit Go.Proofs.YtaibkpbiccibjaaDoorW.PrintWords Go.Proofs.YtaibkpbiccibjaaDoorW.PrintLast Go.Proofs.YtaibkpbiccibjaaDoorW.PrintMore

/-! ### Texts -/
def txR (s acc : ByteArray) (a i : Nat) : Int × ByteArray × Int × Int × Int :=
  match Lx.quo (s.data.toList.drop i) with
  | none => (0, ⟨#[]⟩, 0, 0, 21)
  | some x => if 100 < acc.size + x.1.length then (0, ⟨#[]⟩, 0, 0, 5) else (4, acc ++ ⟨x.1.toArray⟩, (a : Int), ((i + x.2 : Nat) : Int), 0)
theorem quo_other (c : UInt8) (hc : c ≠ 39) (r : List UInt8) : Lx.quo (c :: r) = (Lx.quo r).map fun x => (c :: x.1, x.2 + 1) := by
  cases r with
  | nil => show (if c = 39 then some ([], 1) else none) = _; rw [if_neg hc]; rfl
  | cons d t => rw [Lx.quo, if_neg hc]
theorem app_one (acc : ByteArray) (c : UInt8) (x : List UInt8) : (acc ++ (⟨#[c]⟩ : ByteArray)) ++ (⟨x.toArray⟩ : ByteArray) = acc ++ ⟨(c :: x).toArray⟩ := by
  apply ByteArray.ext
  apply Array.toList_inj.mp
  rw [ByteArray.data_append, ByteArray.data_append, ByteArray.data_append]
  simp
theorem ex_one {s : ByteArray} {i : Nat} (h : i < s.size) : s.extract i (i + 1) = ⟨#[s[i]]⟩ := by
  rw [extract_list', drop_at h, show i + 1 - i = 1 by omega]
  rfl
theorem one_size (acc : ByteArray) (c : UInt8) : (acc ++ (⟨#[c]⟩ : ByteArray)).size = acc.size + 1 := by
  rw [ByteArray.size_append]; rfl
theorem text_shut (s acc : ByteArray) (a i k : Nat) (hi : i < s.size) (hs : s.size ≤ 4000) (hq : Lx.quo (s.data.toList.drop i) = some ([], 1)) : jointerref02_text.j1 (k + 1) s (a : Int) acc (i : Int) true = some (txR s acc a i) := by
  rw [jointerref02_text.j1, if_pos rfl]
  unfold txR
  rw [hq]
  have e : acc ++ (⟨([] : List UInt8).toArray⟩ : ByteArray) = acc := by
    apply ByteArray.ext
    apply Array.toList_inj.mp
    rw [ByteArray.data_append]
    simp
  show _ = some (if 100 < acc.size + 0 then _ else (4, acc ++ (⟨([] : List UInt8).toArray⟩ : ByteArray), (a : Int), ((i + 1 : Nat) : Int), 0))
  rw [e]
  by_cases h : 100 < acc.size
  · rw [if_pos (by omega), if_pos (by omega)]
  · rw [if_neg (by omega), if_neg (by omega), wrap_nat i (by omega)]
theorem text_l0 (s : ByteArray) (hs : s.size ≤ 4000) (a : Nat) : ∀ (n d i k : Nat) (acc : ByteArray), d ≤ n → i + d = s.size → 2 * d + 3 ≤ k → acc.size + d ≤ 10000 →
    jointerref02_text.l0 k s (a : Int) acc (i : Int) = some (txR s acc a i) := by
  have hsl : s.data.toList.length = s.size := by simp
  intro n
  induction n with
  | zero =>
    intro d i k acc hd hi hk hac
    obtain ⟨k, rfl⟩ : ∃ m, k = m + 1 := ⟨k - 1, by omega⟩
    have e : s.data.toList.drop i = [] := List.drop_eq_nil_of_le (by omega)
    rw [jointerref02_text.l0, if_neg (by omega)]
    unfold txR
    rw [e]
    rfl
  | succ n ih =>
    intro d i k acc hd hi hk hac
    obtain ⟨k, rfl⟩ : ∃ m, k = m + 3 := ⟨k - 3, by omega⟩
    by_cases hd0 : d = 0
    · have e : s.data.toList.drop i = [] := List.drop_eq_nil_of_le (by omega)
      rw [jointerref02_text.l0, if_neg (by omega)]
      unfold txR
      rw [e]
      rfl
    have hlt : i < s.size := by omega
    have e0 := drop_at hlt
    rw [jointerref02_text.l0, if_pos (by omega), if_pos (by omega), bt_nat hlt, wrap_nat i (by omega)]
    by_cases h39 : s[i] = 39
    · rw [if_pos (by rw [h39]; rfl)]
      by_cases hend : i + 1 ≥ s.size
      · have e1 : s.data.toList.drop (i + 1) = [] := List.drop_eq_nil_of_le (by omega)
        rw [if_pos (by omega)]
        exact text_shut s acc a i (k + 1) hlt hs (by rw [e0, e1, h39]; rfl)
      · have hlt1 : i + 1 < s.size := by omega
        have e1 := drop_at hlt1
        rw [if_neg (by omega), if_pos (by omega), if_pos (by omega), bt_nat hlt1]
        by_cases h2 : s[i + 1] = 39
        · have hb : (((s[i + 1].toNat : Nat) : Int) != 39) = false := by rw [h2]; rfl
          rw [hb, jointerref02_text.j1, if_neg (by decide), wrap_nat i (by omega), wrap_nat (i + 1) (by omega), if_pos (by omega), if_pos (by omega), if_pos (by omega)]
          rw [show ((i + 1 : Nat) : Int).toNat = i + 1 by omega, show ((i + 1 + 1 : Nat) : Int).toNat = i + 1 + 1 by omega, ex_one hlt1, h2]
          rw [if_pos (by show acc.size + 1 ≤ _; omega), ih (d - 2) (i + 1 + 1) (k + 1) _ (by omega) (by omega) (by omega) (by rw [one_size]; omega)]
          unfold txR
          rw [e0, e1, h39, h2, Lx.quo, if_pos rfl, if_pos rfl]
          cases hq : Lx.quo (s.data.toList.drop (i + 1 + 1)) with
          | none => rfl
          | some x =>
            show some (if 100 < (acc ++ (⟨#[39]⟩ : ByteArray)).size + x.1.length then _ else (4, (acc ++ (⟨#[39]⟩ : ByteArray)) ++ (⟨x.1.toArray⟩ : ByteArray), (a : Int), ((i + 1 + 1 + x.2 : Nat) : Int), 0)) = some (if 100 < acc.size + (39 :: x.1).length then _ else (4, acc ++ (⟨(39 :: x.1).toArray⟩ : ByteArray), (a : Int), ((i + (x.2 + 2) : Nat) : Int), 0))
            rw [app_one, one_size, List.length_cons, show i + 1 + 1 + x.2 = i + (x.2 + 2) by omega, show acc.size + 1 + x.1.length = acc.size + (x.1.length + 1) by omega]
        · have hb : (((s[i + 1].toNat : Nat) : Int) != 39) = true := bne_iff_ne.mpr (fun e => h2 (UInt8.toNat_inj.1 (by show s[i + 1].toNat = 39; omega)))
          rw [hb]
          exact text_shut s acc a i (k + 1) hlt hs (by rw [e0, e1, h39, Lx.quo, if_pos rfl, if_neg h2])
    · rw [if_neg (fun e => h39 (UInt8.toNat_inj.1 (by show s[i].toNat = 39; omega))), if_pos (by omega), if_pos (by omega)]
      rw [show ((i : Nat) : Int).toNat = i by omega, show ((i + 1 : Nat) : Int).toNat = i + 1 by omega, ex_one hlt]
      rw [if_pos (by show acc.size + 1 ≤ _; omega), ih (d - 1) (i + 1) (k + 2) _ (by omega) (by omega) (by omega) (by rw [one_size]; omega)]
      unfold txR
      rw [e0, quo_other _ h39]
      cases hq : Lx.quo (s.data.toList.drop (i + 1)) with
      | none => rfl
      | some x =>
        show some (if 100 < (acc ++ (⟨#[s[i]]⟩ : ByteArray)).size + x.1.length then _ else (4, (acc ++ (⟨#[s[i]]⟩ : ByteArray)) ++ (⟨x.1.toArray⟩ : ByteArray), (a : Int), ((i + 1 + x.2 : Nat) : Int), 0)) = some (if 100 < acc.size + (s[i] :: x.1).length then _ else (4, acc ++ (⟨(s[i] :: x.1).toArray⟩ : ByteArray), (a : Int), ((i + (x.2 + 1) : Nat) : Int), 0))
        rw [app_one, one_size, List.length_cons, show i + 1 + x.2 = i + (x.2 + 1) by omega, show acc.size + 1 + x.1.length = acc.size + (x.1.length + 1) by omega]
theorem ref_text (s : ByteArray) (hs : s.size ≤ 4000) (a k : Nat) (ha : a < s.size) (hL : ¬ Lx.isLet s[a] = true) (hD : ¬ Lx.isDig s[a] = true) (h39 : s[a].toNat = 39) (hk : 9001 ≤ k) : jointerref02_text.f k s (a : Int) = some (refT a (Lx.tokL isKw marksL (s.data.toList.drop a))) := by
  unfold jointerref02_text.f
  rw [wrap_nat a (by omega), text_l0 s hs a (s.size - (a + 1)) (s.size - (a + 1)) (a + 1) k _ (by omega) (by omega) (by omega) (by show 0 + _ ≤ _; omega)]
  rw [drop_at ha]
  unfold Lx.tokL txR
  simp only
  rw [if_neg hL, if_neg hD, if_pos h39]
  cases hq : Lx.quo (s.data.toList.drop (a + 1)) with
  | none => rfl
  | some x =>
    have e : (⟨#[]⟩ : ByteArray) ++ (⟨x.1.toArray⟩ : ByteArray) = ⟨x.1.toArray⟩ := by
      apply ByteArray.ext
      apply Array.toList_inj.mp
      rw [ByteArray.data_append]
      simp
    show some (if 100 < 0 + x.1.length then _ else (4, (⟨#[]⟩ : ByteArray) ++ (⟨x.1.toArray⟩ : ByteArray), (a : Int), ((a + 1 + x.2 : Nat) : Int), 0)) = some (refT a (if 100 < x.1.length then .bad 5 else .good 4 x.1 (x.2 + 1)))
    rw [e, Nat.zero_add]
    by_cases h : 100 < x.1.length
    · rw [if_pos h, if_pos h]; rfl
    · rw [if_neg h, if_neg h, show a + 1 + x.2 = a + (x.2 + 1) by omega]; rfl

/-! ### Marks -/
theorem mark_step (l m : List UInt8) (ms : List (List UInt8)) (X : Option Bool) (h : X = some (ms.contains l)) : (if l = m then some true else X) = some ((m :: ms).contains l) := by
  rw [h, List.contains_cons]
  by_cases e : l = m
  · rw [if_pos e, e]; simp
  · have : (l == m) = false := beq_eq_false_iff_ne.mpr e
    rw [if_neg e, this, Bool.false_or]
theorem ref_mark (x : ByteArray) : jointerref02_isMark.f x = some (marksL.contains x.data.toList) := by
  unfold jointerref02_isMark.f marksL
  rw [Lib.toList_data]
  repeat' (first | exact mark_step _ _ _ _ rfl | refine mark_step _ _ _ _ ?_)
theorem find_len (n : Nat) (l : List UInt8) (hl : n ≤ l.length) : ∀ ms : List (List UInt8), (∀ m ∈ ms, m.length = n) → ms.find? (fun m => m.isPrefixOf l) = if ms.contains (l.take n) = true then some (l.take n) else none
  | [], _ => rfl
  | m :: ms, h => by
    have hm := h m (by simp)
    rw [List.find?_cons, List.contains_cons]
    have hiff : m.isPrefixOf l = (l.take n == m) := by
      rw [Bool.eq_iff_iff, List.isPrefixOf_iff_prefix, beq_iff_eq, List.prefix_iff_eq_take, hm]
      exact eq_comm
    rw [hiff]
    by_cases e : (l.take n == m) = true
    · rw [e, Bool.true_or, if_pos rfl, ← beq_iff_eq.1 e]
    · rw [Bool.not_eq_true] at e
      rw [e, Bool.false_or]
      exact find_len n l hl ms (fun x hx => h x (by simp [hx]))
theorem find_short (n : Nat) (l : List UInt8) (hl : l.length < n) : ∀ ms : List (List UInt8), (∀ m ∈ ms, m.length = n) → ms.find? (fun m => m.isPrefixOf l) = none
  | [], _ => rfl
  | m :: ms, h => by
    have hm := h m (by simp)
    rw [List.find?_cons]
    have : m.isPrefixOf l = false := by
      rw [← Bool.not_eq_true, List.isPrefixOf_iff_prefix]
      intro hp
      have := hp.length_le
      omega
    rw [this]
    exact find_short n l hl ms (fun x hx => h x (by simp [hx]))
def marks2 : List (List UInt8) := [[60, 62], [60, 61], [62, 61], [124, 124]]
def marks1 : List (List UInt8) := [[40], [41], [44], [46], [59], [42], [43], [45], [47], [37], [61], [60], [62]]
theorem marks_two : marksL = marks2 ++ marks1 := rfl
theorem contains_other (x : List UInt8) (n : Nat) (hx : x.length ≠ n) : ∀ ms : List (List UInt8), (∀ m ∈ ms, m.length = n) → ms.contains x = false
  | [], _ => rfl
  | m :: ms, h => by
    have hm := h m (by simp)
    have : (x == m) = false := beq_eq_false_iff_ne.mpr (fun e => hx (by rw [e, hm]))
    rw [List.contains_cons, this, contains_other x n hx ms (fun y hy => h y (by simp [hy]))]
    rfl
theorem find_marks (b : UInt8) (r : List UInt8) : marksL.find? (fun m => m.isPrefixOf (b :: r)) =
    if 2 ≤ (b :: r).length ∧ marksL.contains ((b :: r).take 2) = true then some ((b :: r).take 2) else (if marksL.contains ((b :: r).take 1) = true then some ((b :: r).take 1) else none) := by
  have h2 : ∀ m ∈ marks2, m.length = 2 := by decide
  have h1 : ∀ m ∈ marks1, m.length = 1 := by decide
  have c1 : marksL.contains ((b :: r).take 1) = marks1.contains ((b :: r).take 1) := by
    rw [marks_two, List.contains_append, contains_other _ 2 (by simp) marks2 h2, Bool.false_or]
  rw [marks_two, List.find?_append, find_len 1 (b :: r) (by simp) marks1 h1, ← marks_two, c1]
  by_cases hl : 2 ≤ (b :: r).length
  · have c2 : marksL.contains ((b :: r).take 2) = marks2.contains ((b :: r).take 2) := by
      rw [marks_two, List.contains_append, contains_other _ 1 (by rw [List.length_take]; omega) marks1 h1, Bool.or_false]
    rw [find_len 2 (b :: r) hl marks2 h2, c2]
    by_cases hc : marks2.contains ((b :: r).take 2) = true
    · rw [if_pos hc, if_pos (show 2 ≤ (b :: r).length ∧ marks2.contains ((b :: r).take 2) = true from ⟨hl, hc⟩)]; rfl
    · rw [if_neg hc, if_neg (show ¬ (2 ≤ (b :: r).length ∧ marks2.contains ((b :: r).take 2) = true) from fun h => hc h.2)]; rfl
  · rw [find_short 2 (b :: r) (by omega) marks2 h2, if_neg (show ¬ (2 ≤ (b :: r).length ∧ marksL.contains ((b :: r).take 2) = true) from fun h => hl h.1)]; rfl
theorem ref_marks (s : ByteArray) (hs : s.size ≤ 4000) (a k : Nat) (ha : a < s.size) (hL : ¬ Lx.isLet s[a] = true) (hD : ¬ Lx.isDig s[a] = true) (h39 : ¬ s[a].toNat = 39) (hk : 10 ≤ k) : jointerref02_token.l0 k s (a : Int) 2 = some (refT a (Lx.tokL isKw marksL (s.data.toList.drop a))) := by
  have hsl : s.data.toList.length = s.size := by simp
  have e0 := drop_at ha
  have hlen : (s.data.toList.drop a).length = s.size - a := by rw [List.length_drop, hsl]
  have hT : Lx.tokL isKw marksL (s.data.toList.drop a) = match marksL.find? (fun m => m.isPrefixOf (s.data.toList.drop a)) with | none => .bad 20 | some m => .good 5 m m.length := by
    rw [e0]
    conv => lhs; unfold Lx.tokL
    simp only
    rw [if_neg hL, if_neg hD, if_neg h39]
    rfl
  have hF := find_marks s[a] (s.data.toList.drop (a + 1))
  rw [← e0, hlen] at hF
  rw [hT, hF]
  obtain ⟨k, rfl⟩ : ∃ m, k = m + 3 := ⟨k - 3, by omega⟩
  have hex : ∀ n, s.extract a (a + n) = ⟨((s.data.toList.drop a).take n).toArray⟩ := fun n => by rw [extract_list', show a + n - a = n by omega]
  have hone : jointerref02_token.l0 (k + 2) s (a : Int) 1 = some (refT a (match (if marksL.contains ((s.data.toList.drop a).take 1) = true then some ((s.data.toList.drop a).take 1) else none) with | none => .bad 20 | some m => .good 5 m m.length)) := by
    rw [jointerref02_token.l0, if_pos (by decide), show wrap64 ((a : Int) + 1) = ((a + 1 : Nat) : Int) from wrap_nat a (by omega), if_pos (by omega), if_pos (by omega), if_pos (by omega)]
    rw [show ((a : Nat) : Int).toNat = a by omega, show ((a + 1 : Nat) : Int).toNat = a + 1 by omega, hex, ref_mark, Option.bind_some]
    show (if marksL.contains ((s.data.toList.drop a).take 1) = true then _ else _) = _
    by_cases hc : marksL.contains ((s.data.toList.drop a).take 1) = true
    · rw [if_pos hc, if_pos hc]
      have : ((s.data.toList.drop a).take 1).length = 1 := by rw [List.length_take, hlen]; omega
      show _ = some (refT a (.good 5 ((s.data.toList.drop a).take 1) ((s.data.toList.drop a).take 1).length))
      rw [this]; rfl
    · rw [if_neg hc, if_neg hc, show wrap64 ((1 : Int) - 1) = 0 by decide +kernel, jointerref02_token.l0, if_neg (by decide)]
      rfl
  rw [jointerref02_token.l0, if_pos (by decide), show wrap64 ((a : Int) + 2) = ((a + 2 : Nat) : Int) by unfold wrap64; omega]
  by_cases h2 : 2 ≤ s.size - a
  · rw [if_pos (by omega), if_pos (by omega), if_pos (by omega)]
    rw [show ((a : Nat) : Int).toNat = a by omega, show ((a + 2 : Nat) : Int).toNat = a + 2 by omega, hex, ref_mark, Option.bind_some]
    show (if marksL.contains ((s.data.toList.drop a).take 2) = true then _ else _) = _
    by_cases hc : marksL.contains ((s.data.toList.drop a).take 2) = true
    · rw [if_pos hc, if_pos ⟨h2, hc⟩]
      have : ((s.data.toList.drop a).take 2).length = 2 := by rw [List.length_take, hlen]; omega
      show _ = some (refT a (.good 5 ((s.data.toList.drop a).take 2) ((s.data.toList.drop a).take 2).length))
      rw [this]; rfl
    · rw [if_neg hc, if_neg (fun h => hc h.2), show wrap64 ((2 : Int) - 1) = 1 by decide +kernel, hone]
  · rw [if_neg (by omega), if_neg (fun h => h2 h.1), show wrap64 ((2 : Int) - 1) = 1 by decide +kernel, hone]

/-! ### All tokens -/
theorem ref_token (s : ByteArray) (hs : s.size ≤ 4000) (a k : Nat) (ha : a < s.size) (hk : 9001 ≤ k) : jointerref02_token.f k s (a : Int) = some (refT a (Lx.tokL isKw marksL (s.data.toList.drop a))) := by
  unfold jointerref02_token.f
  rw [if_pos (by omega), if_pos (by omega), bt_nat ha, ref_letter, Option.bind_some, ref_digit]
  simp only [Option.bind_some]
  by_cases hL : Lx.isLet s[a] = true
  · rw [if_pos hL, ref_word s hs a k ha hL hk]; rfl
  · rw [if_neg hL]
    by_cases hD : Lx.isDig s[a] = true
    · rw [if_pos hD, ref_number s hs a k ha hL hD hk]; rfl
    · rw [if_neg hD]
      by_cases h39 : s[a].toNat = 39
      · rw [if_pos (by omega), ref_text s hs a k ha hL hD h39 hk]; rfl
      · rw [if_neg (by omega), ref_marks s hs a k ha hL hD h39 (by omega)]
def resF : Lx.Tks → List S33 × Int × Int
  | .bad p e => ([], (p : Int), e)
  | .good ts => (ts.map toS, 0, 0)
theorem ref_tokens_l0 (s : ByteArray) (hs : s.size ≤ 4000) : ∀ (n d i k : Nat) (pre : List (Int × List UInt8 × Nat)), d ≤ n → i + d = s.size → d + 20000 ≤ k → pre.length + d ≤ 10000 →
    jointerref02_Tokens.l0 k s (pre.map toS) (i : Int) = some (resF (preT pre (tokF s i))) := by
  have hsl : s.data.toList.length = s.size := by simp
  have base : ∀ (i k : Nat) (pre : List (Int × List UInt8 × Nat)), i = s.size → jointerref02_Tokens.l0 (k + 1) s (pre.map toS) (i : Int) = some (resF (preT pre (tokF s i))) := by
    intro i k pre hi
    have e : s.data.toList.drop i = [] := List.drop_eq_nil_of_le (by omega)
    rw [jointerref02_Tokens.l0, if_neg (by omega)]
    unfold tokF
    rw [e]
    simp only [preT, List.append_nil, resF]
  intro n
  induction n with
  | zero =>
    intro d i k pre hd hi hk hp
    obtain ⟨k, rfl⟩ : ∃ m, k = m + 1 := ⟨k - 1, by omega⟩
    exact base i k pre (by omega)
  | succ n ih =>
    intro d i k pre hd hi hk hp
    obtain ⟨k, rfl⟩ : ∃ m, k = m + 1 := ⟨k - 1, by omega⟩
    by_cases hd0 : d = 0
    · exact base i k pre (by omega)
    have hlt : i < s.size := by omega
    rw [jointerref02_Tokens.l0, if_pos (by omega), ref_token s hs i k hlt (by omega), Option.bind_some]
    unfold tokF
    have e0 := drop_at hlt
    cases ht : Lx.tokL isKw marksL (s.data.toList.drop i) with
    | bad e =>
      have hne := tokL_bad ht
      rw [e0]
      rw [e0] at ht
      rw [if_neg (show ¬ (refT i (.bad e)).2.2.2.2 = 0 from hne)]
      simp only
      rw [ht]
      rfl
    | good kd t n' =>
      have hpos := Lx.tokL_pos marks_ne ht
      rw [List.length_drop, hsl] at hpos
      rw [e0]
      rw [e0] at ht
      rw [if_pos (show (refT i (.good kd t n')).2.2.2.2 = 0 from rfl), if_pos (by rw [List.length_map]; omega), show (refT i (.good kd t n')).2.2.2.1 = ((i + n' : Nat) : Int) from rfl, ref_skip s (by omega) (i + n') k (by omega) (by omega), Option.bind_some]
      simp only
      rw [ht]
      simp only
      rw [preT_cons, toks_F]
      have hle := skip_fits s (i + n') (by omega)
      have hx := ih (s.size - (i + n' + Lx.skipC false (s.data.toList.drop (i + n')))) (i + n' + Lx.skipC false (s.data.toList.drop (i + n'))) k (pre ++ [(kd, t, i)]) (by omega) (by omega) (by omega) (by rw [List.length_append]; show _ + 1 + _ ≤ _; omega)
      rw [List.map_append] at hx
      exact hx
theorem ref_tokens (s : ByteArray) (k : Nat) (hk : 30000 ≤ k) : jointerref02_Tokens.f k s = some (tokensR s) := by
  unfold jointerref02_Tokens.f tokensR
  by_cases h4 : s.size ≤ 4000
  · have h1 := ref_skip s (by omega) 0 k (by omega) (by omega)
    rw [show ((0 : Nat) : Int) = (0 : Int) from rfl, List.drop_zero, Nat.zero_add] at h1
    have hle := skip_fits s 0 (by omega)
    rw [List.drop_zero, Nat.zero_add] at hle
    have h2 := ref_tokens_l0 s h4 (s.size - Lx.skipC false s.data.toList) (s.size - Lx.skipC false s.data.toList) (Lx.skipC false s.data.toList) k [] (by omega) (by omega) (by omega) (by show 0 + _ ≤ _; omega)
    have h3 := toks_F s 0
    rw [List.drop_zero, Nat.zero_add] at h3
    rw [if_neg (by omega), h1, Option.bind_some, if_neg (by omega), h3]
    rw [preT_nil] at h2
    refine h2.trans ?_
    cases tokF s (Lx.skipC false s.data.toList) <;> rfl
  · rw [if_pos (by omega), if_pos (by omega)]
theorem shift_none (l : List S33) : l.map (shiftS 0) = l := by
  have : (shiftS 0) = id := by
    funext x
    unfold shiftS
    rw [Int.add_zero]
    rfl
  rw [this, List.map_id]
theorem tokensR_small (s : ByteArray) : (tokensR s).1.length ≤ 4000 ∧ ∀ x ∈ (tokensR s).1, wrap64 (x.f2 + 0) = x.f2 + 0 := by
  unfold tokensR
  by_cases h4 : 4000 < s.size
  · rw [if_pos h4]; simp
  · rw [if_neg h4]
    have hsl : s.data.toList.length = s.size := by simp
    cases ht : Lx.toks isKw marksL (s.size + 1) 0 s.data.toList with
    | bad p e => simp
    | good ts =>
      obtain ⟨h1, h2⟩ := toks_pos _ _ _ _ ht
      simp only
      refine ⟨by rw [List.length_map]; omega, ?_⟩
      intro x hx
      obtain ⟨y, hy, rfl⟩ := List.mem_map.1 hx
      have := h2 y hy
      show wrap64 ((y.2.2 : Int) + 0) = (y.2.2 : Int) + 0
      unfold wrap64
      omega
theorem LexTokens : jointerlaw02_LexTokens.Pure := by
  intro a0 h0
  obtain ⟨g1, g2⟩ := tokensR_small a0
  refine ⟨30000, ?_⟩
  unfold jointerlaw02_LexTokens.f
  have hs := same_true (tokensR a0).1 0 g2 (by omega) 30000 (by omega)
  rw [shift_none] at hs
  rw [ref_tokens a0 _ (by omega), Option.bind_some, lex_Tokens.f, Option.bind_some, hs, Option.bind_some, if_pos rfl, if_pos rfl, if_pos rfl, awake_true, Option.bind_some]
end Go.Proofs.YtaibkpbiccibjaaDoor.PAll
