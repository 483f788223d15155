/- The reference's words, numbers, texts and marks without Go and memory. -/
import Derived.Test.YtaibkpbiccibjaaDoorLPRefA
import Derived.Test.YtaibkpbiccibjaaDoorLFb
import Derived.Test.YtaibkpbiccibjaaDoorLFd
set_option linter.unusedVariables false
namespace Go.Proofs.YtaibkpbiccibjaaDoor.PAll
open Go.RowKit Go.Proofs.YtaibkpbiccibjaaDoorW.PrintWords Go.Proofs.YtaibkpbiccibjaaDoorW.PrintLast Go.Proofs.YtaibkpbiccibjaaDoorW.PrintMore

/-- What the reference's token returns for a token at a place. -/
def refT (a : Nat) : Lx.Tk → Int × ByteArray × Int × Int × Int
  | .bad e => (0, ⟨#[]⟩, 0, 0, e)
  | .good kd t n => (kd, ⟨t.toArray⟩, (a : Int), ((a + n : Nat) : Int), 0)

theorem tw_le (p : UInt8 → Bool) : ∀ l : List UInt8, (l.takeWhile p).length ≤ l.length := fun l => (List.takeWhile_prefix p).length_le

/-! ### Words -/
def wordR (s : ByteArray) (a en : Nat) : Int × ByteArray × Int × Int × Int :=
  if isKw (((s.data.toList.drop a).take (en - a)).map Lx.up) = true then (1, ⟨(((s.data.toList.drop a).take (en - a)).map Lx.up).toArray⟩, (a : Int), (en : Int), 0)
  else (if 20 < en - a then (0, ⟨#[]⟩, 0, 0, 22) else (2, ⟨(((s.data.toList.drop a).take (en - a)).map Lx.low).toArray⟩, (a : Int), (en : Int), 0))
theorem word_j1 (s : ByteArray) (hs : s.size ≤ 4000) (a en k : Nat) (h1 : a ≤ en) (h2 : en ≤ s.size) (hk : 5000 ≤ k) : jointerref02_word.j1 k s (a : Int) (en : Int) = some (wordR s a en) := by
  have hsl : s.data.toList.length = s.size := by simp
  obtain ⟨k, rfl⟩ : ∃ m, k = m + 1 := ⟨k - 1, by omega⟩
  have hll : ((s.data.toList.drop a).take (en - a)).length = en - a := by rw [List.length_take, List.length_drop]; omega
  have hz : ∀ l : List UInt8, (⟨l.toArray⟩ : ByteArray).size = l.length := fun l => by show l.toArray.size = _; simp
  rw [jointerref02_word.j1, if_pos (by omega), if_pos (by omega), if_pos (by omega), show ((a : Nat) : Int).toNat = a by omega, show ((en : Nat) : Int).toNat = en by omega, extract_list']
  have hf : ∀ u, jointerref02_folded.f ⟨((s.data.toList.drop a).take (en - a)).toArray⟩ u = some ⟨(((s.data.toList.drop a).take (en - a)).map (foldB u)).toArray⟩ := by
    intro u
    rw [jointerref02_folded.f, if_pos (by rw [hz]; omega)]
  rw [hf, Option.bind_some, ref_kw _ (by rw [hz, List.length_map]; omega) k (by rw [hz, List.length_map]; omega), Option.bind_some]
  unfold wordR
  have hup : ∀ l : List UInt8, l.map (foldB true) = l.map Lx.up := fun l => rfl
  have hlow : ∀ l : List UInt8, l.map (foldB false) = l.map Lx.low := fun l => rfl
  show (if isKw (((s.data.toList.drop a).take (en - a)).map (foldB true)) = true then _ else _) = _
  rw [hup]
  by_cases hk : isKw (((s.data.toList.drop a).take (en - a)).map Lx.up) = true
  · rw [if_pos hk, if_pos hk]
  · rw [if_neg hk, if_neg hk, show wrap64 ((en : Int) - (a : Int)) = ((en - a : Nat) : Int) by unfold wrap64; omega]
    by_cases h20 : 20 < en - a
    · rw [if_pos (by omega), if_pos h20]
    · rw [if_neg (by omega), if_neg h20, hf, Option.bind_some, hlow]
theorem word_l0 (s : ByteArray) (hs : s.size ≤ 4000) (a : Nat) : ∀ (d i k : Nat), i + d = s.size → a ≤ i → d + 5001 ≤ k →
    jointerref02_word.l0 k s (a : Int) (i : Int) = some (wordR s a (i + ((s.data.toList.drop i).takeWhile Lx.isWord).length)) := by
  have hsl : s.data.toList.length = s.size := by simp
  intro d
  induction d with
  | zero =>
    intro i k hi ha hk
    obtain ⟨k, rfl⟩ : ∃ m, k = m + 1 := ⟨k - 1, by omega⟩
    have e : s.data.toList.drop i = [] := List.drop_eq_nil_of_le (by omega)
    rw [jointerref02_word.l0, if_neg (by omega), e, word_j1 s hs a i k ha (by omega) (by omega)]
    rfl
  | succ d ih =>
    intro i k hi ha hk
    obtain ⟨k, rfl⟩ : ∃ m, k = m + 1 := ⟨k - 1, by omega⟩
    have hlt : i < s.size := by omega
    rw [jointerref02_word.l0, if_pos (by omega), if_pos (by omega), bt_nat hlt, ref_letter, Option.bind_some, ref_digit, wrap_nat i (by omega), ih (i + 1) k (by omega) (by omega) (by omega), drop_at hlt, List.takeWhile_cons]
    simp only [Option.bind_some]
    have hadd : ∀ l : List UInt8, i + 1 + l.length = i + (s[i] :: l).length := fun l => by rw [List.length_cons]; omega
    by_cases hL : Lx.isLet s[i] = true
    · have hW : Lx.isWord s[i] = true := by unfold Lx.isWord; rw [hL]; rfl
      rw [if_pos hL, if_pos hW, hadd]
    · rw [if_neg hL]
      by_cases hD : Lx.isDig s[i] = true
      · have hW : Lx.isWord s[i] = true := by unfold Lx.isWord; rw [hD, Bool.or_true]
        rw [if_pos hD, if_pos hW, hadd]
      · have hW : ¬ Lx.isWord s[i] = true := by
          unfold Lx.isWord
          rw [Bool.not_eq_true] at hL hD
          rw [hL, hD]; decide
        rw [if_neg hD, if_neg hW, word_j1 s hs a i k ha (by omega) (by omega)]
        rfl
theorem ref_word (s : ByteArray) (hs : s.size ≤ 4000) (a k : Nat) (ha : a < s.size) (hL : Lx.isLet s[a] = true) (hk : 9001 ≤ k) : jointerref02_word.f k s (a : Int) = some (refT a (Lx.tokL isKw marksL (s.data.toList.drop a))) := by
  unfold jointerref02_word.f
  rw [word_l0 s hs a (s.size - a) a k (by omega) (by omega) (by omega)]
  have hlen : a + ((s.data.toList.drop a).takeWhile Lx.isWord).length - a = ((s.data.toList.drop a).takeWhile Lx.isWord).length := by omega
  unfold wordR
  rw [hlen, takeWhile_take]
  rw [drop_at ha]
  unfold Lx.tokL
  simp only
  rw [if_pos hL]
  by_cases h1 : isKw (((s[a] :: s.data.toList.drop (a + 1)).takeWhile Lx.isWord).map Lx.up) = true
  · rw [if_pos h1, if_pos h1]; rfl
  · rw [if_neg h1, if_neg h1]
    by_cases h2 : 20 < ((s[a] :: s.data.toList.drop (a + 1)).takeWhile Lx.isWord).length
    · rw [if_pos h2, if_pos h2]; rfl
    · rw [if_neg h2, if_neg h2]; rfl

/-! ### Numbers -/
theorem num_foldl : ∀ (l : List UInt8) (n : Nat), l.foldl Lx.digStep n = n * 10 ^ l.length + l.foldl Lx.digStep 0
  | [], n => by simp
  | b :: r, n => by
    rw [List.foldl_cons, List.foldl_cons, num_foldl r (Lx.digStep n b), num_foldl r (Lx.digStep 0 b)]
    unfold Lx.digStep
    rw [List.length_cons, Nat.pow_succ, Nat.add_mul, Nat.add_mul, Nat.zero_mul, Nat.zero_add, Nat.mul_assoc, Nat.mul_comm 10, Nat.add_assoc]
theorem num_cons (b : UInt8) (r : List UInt8) : Lx.numD (b :: r) = (b.toNat - 48) * 10 ^ r.length + Lx.numD r := by
  unfold Lx.numD
  rw [List.foldl_cons, num_foldl]
  unfold Lx.digStep
  rw [Nat.zero_mul, Nat.zero_add]
theorem num_lt : ∀ (l : List UInt8), (∀ b ∈ l, Lx.isDig b = true) → Lx.numD l < 10 ^ l.length
  | [], _ => by decide
  | b :: r, h => by
    have h1 := num_lt r (fun c hc => h c (by simp [hc]))
    have h2 : b.toNat - 48 ≤ 9 := by
      have := h b (by simp)
      unfold Lx.isDig at this
      simp only [Bool.and_eq_true, decide_eq_true_eq] at this
      omega
    rw [num_cons, List.length_cons, Nat.pow_succ]
    have h3 : (b.toNat - 48) * 10 ^ r.length ≤ 9 * 10 ^ r.length := Nat.mul_le_mul_right _ h2
    omega
theorem num_cmp (a b : UInt8) (x y : List UInt8) (hl : x.length = y.length) (ha : Lx.isDig a = true) (hb : Lx.isDig b = true) (hx : ∀ c ∈ x, Lx.isDig c = true) (hy : ∀ c ∈ y, Lx.isDig c = true) (hab : a ≠ b) :
    decide (Lx.numD (a :: x) ≤ Lx.numD (b :: y)) = decide (a.toNat < b.toNat) := by
  have h1 := num_lt x hx
  have h2 := num_lt y hy
  rw [num_cons, num_cons, hl]
  rw [hl] at h1
  unfold Lx.isDig at ha hb
  simp only [Bool.and_eq_true, decide_eq_true_eq] at ha hb
  have hne : a.toNat ≠ b.toNat := fun e => hab (UInt8.toNat_inj.1 e)
  by_cases hlt : a.toNat < b.toNat
  · rw [decide_eq_true hlt, decide_eq_true_eq]
    have h3 : (a.toNat - 48 + 1) * 10 ^ y.length ≤ (b.toNat - 48) * 10 ^ y.length := Nat.mul_le_mul_right _ (by omega)
    rw [Nat.add_mul, Nat.one_mul] at h3
    omega
  · rw [decide_eq_false hlt, decide_eq_false_iff_not]
    have h3 : (b.toNat - 48 + 1) * 10 ^ y.length ≤ (a.toNat - 48) * 10 ^ y.length := Nat.mul_le_mul_right _ (by omega)
    rw [Nat.add_mul, Nat.one_mul] at h3
    omega
def maxB : ByteArray := ⟨#[57, 50, 50, 51, 51, 55, 50, 48, 51, 54, 56, 53, 52, 55, 55, 53, 56, 48, 56]⟩
theorem maxB_size : maxB.size = 19 := rfl
theorem maxB_num : Lx.numD maxB.data.toList = 9223372036854775808 := by decide +kernel
theorem maxB_dig : ∀ b ∈ maxB.data.toList, Lx.isDig b = true := by decide +kernel

theorem small_l1 (s : ByteArray) (hs : s.size = 19) (hd : ∀ b ∈ s.data.toList, Lx.isDig b = true) : ∀ (d i k : Nat), i + d = 19 → d < k →
    jointerref02_isSmall.l1 k s (i : Int) = some (decide (Lx.numD (s.data.toList.drop i) ≤ Lx.numD (maxB.data.toList.drop i))) := by
  have hsl : s.data.toList.length = s.size := by simp
  have hml : maxB.data.toList.length = 19 := rfl
  intro d
  induction d with
  | zero =>
    intro i k hi hk
    obtain ⟨k, rfl⟩ : ∃ m, k = m + 1 := ⟨k - 1, by omega⟩
    have e : s.data.toList.drop i = [] := List.drop_eq_nil_of_le (by omega)
    have e2 : maxB.data.toList.drop i = [] := List.drop_eq_nil_of_le (by omega)
    rw [jointerref02_isSmall.l1, if_neg (by omega), e, e2]
    rfl
  | succ d ih =>
    intro i k hi hk
    obtain ⟨k, rfl⟩ : ∃ m, k = m + 1 := ⟨k - 1, by omega⟩
    have hlt : i < s.size := by omega
    have hlt2 : i < maxB.size := by rw [maxB_size]; omega
    have hbm := bt_nat hlt2
    rw [jointerref02_isSmall.l1, if_pos (by omega), if_pos (by omega), if_pos (by omega), bt_nat hlt]
    change (if (s[i].toNat : Int) = bt maxB (i : Int) then _ else some (decide ((s[i].toNat : Int) < bt maxB (i : Int)))) = _
    rw [hbm, wrap_nat i (by omega), ih (i + 1) k (by omega) (by omega)]
    have e1 := drop_at hlt
    have e2 := drop_at hlt2
    have hmem : ∀ (x : ByteArray) (j : Nat), (∀ b ∈ x.data.toList, Lx.isDig b = true) → ∀ b ∈ x.data.toList.drop j, Lx.isDig b = true := fun x j h b hb => h b (List.mem_of_mem_drop hb)
    have d1 := hmem s i hd
    have d2 := hmem maxB i maxB_dig
    rw [e1] at d1 ⊢
    rw [e2] at d2 ⊢
    by_cases heq : s[i] = maxB[i]
    · rw [if_pos (by rw [heq]), num_cons, num_cons, heq]
      have hll : (s.data.toList.drop (i + 1)).length = (maxB.data.toList.drop (i + 1)).length := by rw [List.length_drop, List.length_drop, hsl, hml, hs]
      rw [hll]
      congr 1
      rw [Bool.eq_iff_iff, decide_eq_true_eq, decide_eq_true_eq]
      omega
    · rw [if_neg (fun e => heq (UInt8.toNat_inj.1 (by omega))), num_cmp _ _ _ _ (by rw [List.length_drop, List.length_drop, hsl, hml, hs]) (d1 _ (by simp)) (d2 _ (by simp)) (fun c hc => d1 c (by simp [hc])) (fun c hc => d2 c (by simp [hc])) heq]
      congr 1
      rw [Bool.eq_iff_iff, decide_eq_true_eq, decide_eq_true_eq]
      omega
theorem small_j1 (s : ByteArray) (hd : ∀ b ∈ s.data.toList, Lx.isDig b = true) (h19 : s.size ≤ 19) (k : Nat) (hk : 30 ≤ k) : jointerref02_isSmall.j1 k s = some (decide (Lx.numD s.data.toList ≤ 9223372036854775808)) := by
  have hsl : s.data.toList.length = s.size := by simp
  obtain ⟨k, rfl⟩ : ∃ m, k = m + 1 := ⟨k - 1, by omega⟩
  rw [jointerref02_isSmall.j1]
  by_cases h : s.size = 19
  · have h1 := small_l1 s h hd 19 0 k (by omega) (by omega)
    rw [show ((0 : Nat) : Int) = (0 : Int) from rfl, List.drop_zero, List.drop_zero, maxB_num] at h1
    rw [if_pos (by omega), h1]
  · have h1 := num_lt _ hd
    have h2 : 10 ^ s.data.toList.length ≤ 10 ^ 18 := Nat.pow_le_pow_right (by omega) (by omega)
    have h3 : (10 : Nat) ^ 18 = 1000000000000000000 := by decide
    rw [if_neg (by omega), decide_eq_true (by omega), decide_eq_true (by omega)]
theorem small_l0 : ∀ (n : Nat) (s : ByteArray) (k : Nat), s.size = n → s.size ≤ 4000 → (∀ b ∈ s.data.toList, Lx.isDig b = true) → n + 40 ≤ k → jointerref02_isSmall.l0 k s = some (decide (Lx.numD s.data.toList ≤ 9223372036854775808)) := by
  intro n
  induction n with
  | zero =>
    intro s k hs h4 hd hk
    obtain ⟨k, rfl⟩ : ∃ m, k = m + 1 := ⟨k - 1, by omega⟩
    rw [jointerref02_isSmall.l0, if_neg (by omega), small_j1 s hd (by omega) k (by omega)]
  | succ n ih =>
    intro s k hs h4 hd hk
    have hsl : s.data.toList.length = s.size := by simp
    obtain ⟨k, rfl⟩ : ∃ m, k = m + 1 := ⟨k - 1, by omega⟩
    rw [jointerref02_isSmall.l0]
    by_cases h19 : s.size ≤ 19
    · rw [if_neg (by omega), small_j1 s hd h19 k (by omega)]
    · have h0 : 0 < s.size := by omega
      have hbt := bt_nat h0
      have e0 := drop_at h0
      rw [List.drop_zero] at e0
      rw [show ((0 : Nat) : Int) = (0 : Int) from rfl] at hbt
      rw [if_pos (by omega), if_pos (by omega), hbt]
      have hex : (s.extract 1 s.size).data.toList = s.data.toList.drop 1 := by
        rw [extract_list']
        show List.take _ _ = _
        rw [List.take_of_length_le (by rw [List.length_drop]; omega)]
      have hes : (s.extract 1 s.size).size = n := by
        have : (s.extract 1 s.size).data.toList.length = n := by rw [hex, List.length_drop]; omega
        simpa using this
      by_cases h48 : s[0].toNat = 48
      · rw [if_pos (by omega), if_pos (by omega), ih _ k hes (by omega) (by rw [hex]; exact fun b hb => hd b (List.mem_of_mem_drop hb)) (by omega), hex, e0, num_cons, h48]
        simp
      · have hdig := hd s[0] (by rw [e0]; simp)
        unfold Lx.isDig at hdig
        simp only [Bool.and_eq_true, decide_eq_true_eq] at hdig
        have hbig : 9223372036854775808 < Lx.numD s.data.toList := by
          rw [e0, num_cons]
          have h1 : 1 * 10 ^ (s.data.toList.drop (0 + 1)).length ≤ (s[0].toNat - 48) * 10 ^ (s.data.toList.drop (0 + 1)).length := Nat.mul_le_mul_right _ (by omega)
          have h2 : 10 ^ 19 ≤ 10 ^ (s.data.toList.drop (0 + 1)).length := Nat.pow_le_pow_right (by omega) (by rw [List.length_drop]; omega)
          have h3 : (10 : Nat) ^ 19 = 10000000000000000000 := by decide
          omega
        obtain ⟨k, rfl⟩ : ∃ m, k = m + 1 := ⟨k - 1, by omega⟩
        rw [if_neg (by omega), jointerref02_isSmall.j1, if_neg (by omega), decide_eq_false (by omega), decide_eq_false (by omega)]
theorem ref_small (s : ByteArray) (h4 : s.size ≤ 4000) (hd : ∀ b ∈ s.data.toList, Lx.isDig b = true) (k : Nat) (hk : 4040 ≤ k) : jointerref02_isSmall.f k s = some (decide (Lx.numD s.data.toList ≤ 9223372036854775808)) := by
  unfold jointerref02_isSmall.f
  exact small_l0 s.size s k rfl h4 hd (by omega)

def numR (s : ByteArray) (a en : Nat) : Int × ByteArray × Int × Int × Int :=
  if 9223372036854775808 < Lx.numD ((s.data.toList.drop a).take (en - a)) then (0, ⟨#[]⟩, 0, 0, 23)
  else (if ((s.data.toList.drop en).head?.map Lx.isLet).getD false = true then (0, ⟨#[]⟩, 0, 0, 24) else (3, ⟨((s.data.toList.drop a).take (en - a)).toArray⟩, (a : Int), (en : Int), 0))
theorem number_j1 (s : ByteArray) (hs : s.size ≤ 4000) (a en k : Nat) (h1 : a ≤ en) (h2 : en ≤ s.size) (hd : ∀ b ∈ (s.data.toList.drop a).take (en - a), Lx.isDig b = true) (hk : 5000 ≤ k) : jointerref02_number.j1 k s (a : Int) (en : Int) = some (numR s a en) := by
  have hsl : s.data.toList.length = s.size := by simp
  obtain ⟨k, rfl⟩ : ∃ m, k = m + 1 := ⟨k - 1, by omega⟩
  have hll : ((s.data.toList.drop a).take (en - a)).length = en - a := by rw [List.length_take, List.length_drop]; omega
  have hz : ∀ l : List UInt8, (⟨l.toArray⟩ : ByteArray).size = l.length := fun l => by show l.toArray.size = _; simp
  rw [jointerref02_number.j1, if_pos (by omega), if_pos (by omega), if_pos (by omega), show ((a : Nat) : Int).toNat = a by omega, show ((en : Nat) : Int).toNat = en by omega, extract_list']
  rw [ref_small _ (by rw [hz]; omega) hd k (by omega), Option.bind_some]
  show (if decide (Lx.numD ((s.data.toList.drop a).take (en - a)) ≤ 9223372036854775808) = true then _ else _) = _
  unfold numR
  by_cases hn : Lx.numD ((s.data.toList.drop a).take (en - a)) ≤ 9223372036854775808
  · rw [if_pos (decide_eq_true hn), if_neg (show ¬ 9223372036854775808 < Lx.numD ((s.data.toList.drop a).take (en - a)) by omega)]
    by_cases he : en < s.size
    · rw [if_pos (by omega), if_pos (by omega), bt_nat he, ref_letter, Option.bind_some, drop_at he]
      show _ = some (if Lx.isLet s[en] = true then _ else _)
      by_cases hL : Lx.isLet s[en] = true
      · rw [if_pos hL, if_pos hL]
      · rw [if_neg hL, if_neg hL]
    · have e : s.data.toList.drop en = [] := List.drop_eq_nil_of_le (by omega)
      rw [if_neg (by omega), e, if_neg (by simp)]
  · rw [if_neg (show ¬ decide (Lx.numD ((s.data.toList.drop a).take (en - a)) ≤ 9223372036854775808) = true by simpa using hn), if_pos (by omega)]
theorem number_l0 (s : ByteArray) (hs : s.size ≤ 4000) (a : Nat) : ∀ (d i k : Nat), i + d = s.size → a ≤ i → (∀ b ∈ (s.data.toList.drop a).take (i - a), Lx.isDig b = true) → d + 5001 ≤ k →
    jointerref02_number.l0 k s (a : Int) (i : Int) = some (numR s a (i + ((s.data.toList.drop i).takeWhile Lx.isDig).length)) := by
  have hsl : s.data.toList.length = s.size := by simp
  intro d
  induction d with
  | zero =>
    intro i k hi ha hd hk
    obtain ⟨k, rfl⟩ : ∃ m, k = m + 1 := ⟨k - 1, by omega⟩
    have e : s.data.toList.drop i = [] := List.drop_eq_nil_of_le (by omega)
    rw [jointerref02_number.l0, if_neg (by omega), e, number_j1 s hs a i k ha (by omega) hd (by omega)]
    rfl
  | succ d ih =>
    intro i k hi ha hd hk
    obtain ⟨k, rfl⟩ : ∃ m, k = m + 1 := ⟨k - 1, by omega⟩
    have hlt : i < s.size := by omega
    rw [jointerref02_number.l0, if_pos (by omega), if_pos (by omega), bt_nat hlt, ref_digit, Option.bind_some, wrap_nat i (by omega), drop_at hlt, List.takeWhile_cons]
    have hadd : ∀ l : List UInt8, i + 1 + l.length = i + (s[i] :: l).length := fun l => by rw [List.length_cons]; omega
    by_cases hD : Lx.isDig s[i] = true
    · rw [if_pos hD, if_pos hD, ih (i + 1) k (by omega) (by omega) ?_ (by omega), hadd]
      intro b hb
      rw [show i + 1 - a = (i - a) + 1 by omega, List.take_add_one, List.getElem?_drop, show a + (i - a) = i by omega, sget hlt] at hb
      rcases List.mem_append.1 hb with h1 | h1
      · exact hd b h1
      · have : b = s[i] := by simpa using h1
        rw [this]; exact hD
    · rw [if_neg hD, if_neg hD, number_j1 s hs a i k ha (by omega) hd (by omega)]
      rfl
theorem ref_number (s : ByteArray) (hs : s.size ≤ 4000) (a k : Nat) (ha : a < s.size) (hL : ¬ Lx.isLet s[a] = true) (hD : Lx.isDig s[a] = true) (hk : 9001 ≤ k) : jointerref02_number.f k s (a : Int) = some (refT a (Lx.tokL isKw marksL (s.data.toList.drop a))) := by
  unfold jointerref02_number.f
  rw [number_l0 s hs a (s.size - a) a k (by omega) (by omega) (by simp) (by omega)]
  have hlen : a + ((s.data.toList.drop a).takeWhile Lx.isDig).length - a = ((s.data.toList.drop a).takeWhile Lx.isDig).length := by omega
  unfold numR
  rw [hlen, takeWhile_take, ← List.drop_drop]
  rw [drop_at ha]
  unfold Lx.tokL
  simp only
  rw [if_neg hL, if_pos hD]
  by_cases h1 : 9223372036854775808 < Lx.numD ((s[a] :: s.data.toList.drop (a + 1)).takeWhile Lx.isDig)
  · rw [if_pos h1, if_pos h1]; rfl
  · rw [if_neg h1, if_neg h1]
    by_cases h2 : (((s[a] :: s.data.toList.drop (a + 1)).drop ((s[a] :: s.data.toList.drop (a + 1)).takeWhile Lx.isDig).length).head?.map Lx.isLet).getD false = true
    · rw [if_pos h2, if_pos h2]; rfl
    · rw [if_neg h2, if_neg h2]; rfl
end Go.Proofs.YtaibkpbiccibjaaDoor.PAll
