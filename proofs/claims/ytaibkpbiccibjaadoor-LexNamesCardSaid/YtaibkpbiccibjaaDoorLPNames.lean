/- LexNames without Go and memory: IsName and the reference's IsName answer alike; a name is one token with this text. -/
import Derived.Test.YtaibkpbiccibjaaDoorLPRefA
import Derived.Test.YtaibkpbiccibjaaDoorLLNames
set_option linter.unusedVariables false
namespace Go.Proofs.YtaibkpbiccibjaaDoor.PAll
open Go.RowKit Go.Proofs.YtaibkpbiccibjaaDoorW.PrintWords Go.Proofs.YtaibkpbiccibjaaDoorW.PrintLast Go.Proofs.YtaibkpbiccibjaaDoorW.PrintMore

def nu (b : UInt8) : Bool := !(decide (65 ≤ b.toNat) && decide (b.toNat ≤ 90))
theorem byte_all {p : UInt8 → Prop} (h : ∀ n : Fin 256, p (UInt8.ofNat n.val)) (b : UInt8) : p b := by
  have := h ⟨b.toNat, b.toNat_lt⟩
  simpa using this
theorem clsL (b : UInt8) : decide (cls b = 2) = Lx.isLet b := byte_all (p := fun b => decide (cls b = 2) = Lx.isLet b) (by decide +kernel) b
theorem clsD (b : UInt8) : decide (cls b = 3) = Lx.isDig b := byte_all (p := fun b => decide (cls b = 3) = Lx.isDig b) (by decide +kernel) b
theorem low_nu (b : UInt8) : decide (Lib.lowerB b = b) = nu b := byte_all (p := fun b => decide (Lib.lowerB b = b) = nu b) (by decide +kernel) b
theorem let_dig (b : UInt8) : (Lx.isLet b && Lx.isDig b) = false := byte_all (p := fun b => (Lx.isLet b && Lx.isDig b) = false) (by decide +kernel) b
theorem dig_nu (b : UInt8) : (Lx.isDig b && !nu b) = false := byte_all (p := fun b => (Lx.isDig b && !nu b) = false) (by decide +kernel) b
theorem word_low (b : UInt8) : (Lx.isWord b && !decide (b.toNat < 128)) = false := byte_all (p := fun b => (Lx.isWord b && !decide (b.toNat < 128)) = false) (by decide +kernel) b
theorem cls_k (b : UInt8) : ∀ k, 5 ≤ k → lex_class.f k b.toNat = some (cls b)
  | 0, h => by omega
  | k + 1, h => by
    by_cases h5 : k + 1 = 5
    · rw [h5]; exact cls_f b
    · exact lex_class.mono _ k _ (cls_k b k (by omega))

theorem map_nu (l : List UInt8) : decide (Lib.toLowerA l = l) = l.all nu := by
  induction l with
  | nil => rfl
  | cons b r ih =>
    rw [List.all_cons, ← ih, ← low_nu]
    unfold Lib.toLowerA
    rw [List.map_cons]
    by_cases h1 : Lib.lowerB b = b
    · by_cases h2 : r.map Lib.lowerB = r
      · simp [h1, h2]
      · simp [h1, h2]
    · simp [h1]
theorem up_map (l : List UInt8) : Lib.toUpperA l = l.map Lx.up := by unfold Lib.toUpperA; exact List.map_congr_left fun b _ => upper_up b

theorem name_l0 (s : ByteArray) (hs : s.size ≤ 20) : ∀ (d i k : Nat), i + d = s.size → d + 6 ≤ k → (∀ b ∈ s.data.toList.take i, Lx.isWord b = true) →
    lex_IsName.l0 k s (s.size : Int) (i : Int) = some ((s.data.toList.drop i).all Lx.isWord && s.data.toList.all nu && !isKw (s.data.toList.map Lx.up)) := by
  have hsl : s.data.toList.length = s.size := by simp
  intro d
  induction d with
  | zero =>
    intro i k hi hk hw
    obtain ⟨k, rfl⟩ : ∃ m, k = m + 1 := ⟨k - 1, by omega⟩
    have e : s.data.toList.drop i = [] := List.drop_eq_nil_of_le (by omega)
    rw [List.take_of_length_le (by omega)] at hw
    have ha : ascii s = true := by
      unfold ascii
      rw [List.all_eq_true]
      intro b hb
      have h1 := word_low b
      rw [hw b hb, Bool.true_and] at h1
      simpa using h1
    rw [lex_IsName.l0, if_neg (by omega), strings_ToLower.f, if_pos ⟨by omega, ha⟩, Option.bind_some, e, Lib.toList_data, Lib.toList_data, ← map_nu]
    by_cases hl : Lib.toLowerA s.data.toList = s.data.toList
    · rw [if_pos (by show s.data.toList = Lib.toLowerA s.data.toList; exact hl.symm), strings_ToUpper.f, if_pos ⟨by omega, ha⟩, Option.bind_some, lex_IsKeyword.f, Option.bind_some, decide_eq_true hl]
      show some (!isKw (Lib.toUpperA s.data.toList)) = _
      rw [up_map]
      rfl
    · rw [if_neg (by show ¬ s.data.toList = Lib.toLowerA s.data.toList; exact fun h => hl h.symm), decide_eq_false hl]
      rfl
  | succ d ih =>
    intro i k hi hk hw
    obtain ⟨k, rfl⟩ : ∃ m, k = m + 1 := ⟨k - 1, by omega⟩
    have hlt : i < s.size := by omega
    rw [lex_IsName.l0, if_pos (by omega), if_pos (by omega), if_pos (by omega), bt_nat hlt, cls_k _ k (by omega), Option.bind_some, wrap_nat i (by omega), drop_at hlt, List.all_cons]
    have hnext : Lx.isWord s[i] = true → ∀ b ∈ s.data.toList.take (i + 1), Lx.isWord b = true := by
      intro h b hb
      rw [List.take_add_one, List.getElem?_eq_getElem (by omega : i < s.data.toList.length)] at hb
      rcases List.mem_append.1 hb with h1 | h1
      · exact hw b h1
      · have : b = s[i] := by simp at h1; exact h1
        rw [this]; exact h
    by_cases h2 : cls s[i] = 2
    · have hW : Lx.isWord s[i] = true := by unfold Lx.isWord; rw [← clsL, decide_eq_true h2]; rfl
      rw [if_pos h2, ih (i + 1) k (by omega) (by omega) (hnext hW), hW, Bool.true_and]
    · by_cases h3 : cls s[i] = 3
      · have hW : Lx.isWord s[i] = true := by unfold Lx.isWord; rw [← clsD, decide_eq_true h3, Bool.or_true]
        rw [if_neg h2, if_pos h3, ih (i + 1) k (by omega) (by omega) (hnext hW), hW, Bool.true_and]
      · have hW : Lx.isWord s[i] = false := by unfold Lx.isWord; rw [← clsL, ← clsD, decide_eq_false h2, decide_eq_false h3]; rfl
        rw [if_neg h2, if_neg h3, hW]
        rfl

theorem ref_name_l0 (s : ByteArray) (hs : s.size ≤ 20) : ∀ (d i k : Nat), i + d = s.size → d + 430 ≤ k →
    jointerref02_IsName.l0 k s (i : Int) = some ((s.data.toList.drop i).all (fun b => Lx.isWord b && nu b) && !isKw (s.data.toList.map Lx.up)) := by
  have hsl : s.data.toList.length = s.size := by simp
  intro d
  induction d with
  | zero =>
    intro i k hi hk
    obtain ⟨k, rfl⟩ : ∃ m, k = m + 1 := ⟨k - 1, by omega⟩
    have e : s.data.toList.drop i = [] := List.drop_eq_nil_of_le (by omega)
    have hz : (⟨(s.data.toList.map (foldB true)).toArray⟩ : ByteArray).size = s.size := by
      show (s.data.toList.map (foldB true)).toArray.size = _
      rw [List.size_toArray, List.length_map, hsl]
    rw [jointerref02_IsName.l0, if_neg (by omega), jointerref02_folded.f, if_pos (by omega), Option.bind_some, ref_kw _ (by omega) k (by omega), Option.bind_some, e]
    rfl
  | succ d ih =>
    intro i k hi hk
    obtain ⟨k, rfl⟩ : ∃ m, k = m + 1 := ⟨k - 1, by omega⟩
    have hlt : i < s.size := by omega
    rw [jointerref02_IsName.l0, if_pos (by omega), if_pos (by omega), bt_nat hlt, ref_letter, Option.bind_some, wrap_nat i (by omega), drop_at hlt, List.all_cons, ih (i + 1) k (by omega) (by omega), ref_digit]
    simp only [Option.bind_some]
    have hN : nu s[i] = !(decide (65 ≤ s[i].toNat) && decide (s[i].toNat ≤ 90)) := rfl
    by_cases hL : Lx.isLet s[i] = true
    · have hW : Lx.isWord s[i] = true := by unfold Lx.isWord; rw [hL]; rfl
      rw [if_pos hL, hW, Bool.true_and]
      by_cases h1 : 65 ≤ s[i].toNat
      · rw [if_pos (by omega)]
        by_cases h2 : s[i].toNat ≤ 90
        · rw [if_pos (by omega), hN, decide_eq_true h1, decide_eq_true h2]; rfl
        · rw [if_neg (by omega), hN, decide_eq_true h1, decide_eq_false h2]; rfl
      · rw [if_neg (by omega), hN, decide_eq_false h1]; rfl
    · rw [if_neg hL]
      by_cases hD : Lx.isDig s[i] = true
      · have hW : Lx.isWord s[i] = true := by unfold Lx.isWord; rw [hD, Bool.or_true]
        have hn : nu s[i] = true := by
          have := dig_nu s[i]
          rw [hD, Bool.true_and] at this
          simpa using this
        rw [if_pos hD, hW, hn, Bool.true_and]
        rw [hN] at hn
        by_cases h1 : 65 ≤ s[i].toNat
        · rw [if_pos (by omega)]
          by_cases h2 : s[i].toNat ≤ 90
          · rw [decide_eq_true h1, decide_eq_true h2] at hn; exact absurd hn (by decide)
          · rw [if_neg (by omega)]; rfl
        · rw [if_neg (by omega)]; rfl
      · have hW : Lx.isWord s[i] = false := by
          unfold Lx.isWord
          rw [Bool.not_eq_true] at hL hD
          rw [hL, hD]; rfl
        rw [if_neg hD, hW]
        rfl

theorem isNm_eq (b : UInt8) (r : List UInt8) : Lx.isNm isKw (b :: r) = (decide ((b :: r).length ≤ 20) && Lx.isLet b && ((b :: r).all Lx.isWord && (b :: r).all nu) && !isKw ((b :: r).map Lx.up)) := by
  have h : ∀ l : List UInt8, l.all (fun b => Lx.isWord b && !(decide (65 ≤ b.toNat) && decide (b.toNat ≤ 90))) = (l.all Lx.isWord && l.all nu) := by
    intro l
    induction l with
    | nil => rfl
    | cons c t ih =>
      rw [List.all_cons, List.all_cons, List.all_cons, ih]
      show (Lx.isWord c && nu c && _) = _
      cases Lx.isWord c <;> cases nu c <;> simp
  unfold Lx.isNm
  rw [h]
  simp

theorem name_is (s : ByteArray) (k : Nat) (hk : 40 ≤ k) : lex_IsName.f k s = some (Lx.isNm isKw s.data.toList) := by
  have hsl : s.data.toList.length = s.size := by simp
  unfold lex_IsName.f
  rw [Lib.toList_data]
  obtain ⟨k, rfl⟩ : ∃ m, k = m + 1 := ⟨k - 1, by omega⟩
  cases hl : s.data.toList with
  | nil => rw [if_pos rfl, lex_IsName.j0, if_pos rfl]; rfl
  | cons b r =>
    have h0 : 0 < s.size := by rw [← hsl, hl]; exact Nat.succ_pos _
    rw [if_neg (by simp)]
    by_cases h20 : s.size ≤ 20
    · have hb : s[0] = b := by
        have := drop_at h0
        rw [List.drop_zero, hl] at this
        exact (List.cons.inj this).1.symm
      have hbt := bt_nat h0
      rw [show ((0 : Nat) : Int) = (0 : Int) from rfl, hb] at hbt
      rw [if_neg (by omega), if_pos (by omega), hbt, cls_k _ _ (by omega), Option.bind_some, lex_IsName.j0, isNm_eq]
      have hL := clsL b
      have h1 := name_l0 s h20 s.size 0 k (by omega) (by omega) (by simp)
      rw [show ((0 : Nat) : Int) = (0 : Int) from rfl, List.drop_zero, hl] at h1
      have hlen : (b :: r).length ≤ 20 := by rw [← hl, hsl]; exact h20
      rw [decide_eq_true hlen]
      by_cases h2 : cls b = 2
      · rw [if_neg (by simp [h2]), h1, ← hL, decide_eq_true h2]
        rfl
      · rw [if_pos (by simpa using h2), ← hL, decide_eq_false h2]
        rfl
    · have hlen : ¬ (b :: r).length ≤ 20 := by rw [← hl, hsl]; exact h20
      rw [if_pos (by omega), lex_IsName.j0, if_pos rfl, isNm_eq, decide_eq_false hlen]
      rfl

theorem ref_name_is (s : ByteArray) (k : Nat) (hk : 460 ≤ k) : jointerref02_IsName.f k s = some (Lx.isNm isKw s.data.toList) := by
  have hsl : s.data.toList.length = s.size := by simp
  unfold jointerref02_IsName.f
  rw [Lib.toList_data]
  obtain ⟨k, rfl⟩ : ∃ m, k = m + 1 := ⟨k - 1, by omega⟩
  cases hl : s.data.toList with
  | nil => rw [if_pos rfl, jointerref02_IsName.j0, if_pos rfl]; rfl
  | cons b r =>
    have h0 : 0 < s.size := by rw [← hsl, hl]; exact Nat.succ_pos _
    rw [if_neg (by simp)]
    by_cases h20 : s.size ≤ 20
    · have hb : s[0] = b := by
        have := drop_at h0
        rw [List.drop_zero, hl] at this
        exact (List.cons.inj this).1.symm
      have hbt := bt_nat h0
      rw [show ((0 : Nat) : Int) = (0 : Int) from rfl, hb] at hbt
      rw [if_neg (by omega), if_pos (by omega), hbt, ref_digit, Option.bind_some, jointerref02_IsName.j0, isNm_eq]
      have h1 := ref_name_l0 s h20 s.size 0 k (by omega) (by omega)
      rw [show ((0 : Nat) : Int) = (0 : Int) from rfl, List.drop_zero, hl] at h1
      have hlen : (b :: r).length ≤ 20 := by rw [← hl, hsl]; exact h20
      have hall : ∀ l : List UInt8, l.all (fun b => Lx.isWord b && nu b) = (l.all Lx.isWord && l.all nu) := by
        intro l
        induction l with
        | nil => rfl
        | cons c t ih =>
          rw [List.all_cons, List.all_cons, List.all_cons, ih]
          cases Lx.isWord c <;> cases nu c <;> simp
      rw [decide_eq_true hlen, Bool.true_and]
      have hld := let_dig b
      by_cases hD : Lx.isDig b = true
      · rw [hD, Bool.and_true] at hld
        rw [if_pos hD, hld]
        rfl
      · rw [if_neg hD, h1, hall]
        rw [Bool.not_eq_true] at hD
        rw [List.all_cons (f := Lx.isWord)]
        have hW : Lx.isWord b = Lx.isLet b := by unfold Lx.isWord; rw [hD, Bool.or_false]
        rw [hW]
        cases Lx.isLet b <;> simp
    · have hlen : ¬ (b :: r).length ≤ 20 := by rw [← hl, hsl]; exact h20
      rw [if_pos (by omega), jointerref02_IsName.j0, if_pos rfl, isNm_eq, decide_eq_false hlen]
      rfl

theorem LexNames : jointerlaw02_LexNames.Pure := by
  intro a0 h0
  have hsl : a0.data.toList.length = a0.size := by simp
  refine ⟨a0.size + 500, ?_⟩
  unfold jointerlaw02_LexNames.f
  rw [name_is a0 _ (by omega), Option.bind_some, ref_name_is a0 _ (by omega), Option.bind_some, if_neg (by simp), lex_IsKeyword.f, Option.bind_some, ref_kw a0 h0 _ (by omega), Option.bind_some, if_neg (by simp), Option.bind_some, Option.bind_some]
  have hfin : ∀ x : Bool, (Lx.isNm isKw a0.data.toList = true → x = false) → (x = true → False) → jointerlaw02_LexNames.j0 (a0.size + 500) a0 x = some true := by
    intro x hx hx2
    have hxf : x = false := by cases x; rfl; exact absurd rfl hx2
    subst hxf
    rw [jointerlaw02_LexNames.j0, if_neg (by decide), lex_Tokens.f, Option.bind_some, name_is a0 _ (by omega), Option.bind_some]
    by_cases hn : Lx.isNm isKw a0.data.toList = true
    · have hp := Lx.isNm_parts hn
      have h20 : a0.size ≤ 20 := by rw [← hsl]; exact hp.2.1
      have hT : tokensR a0 = ([toS (2, a0.data.toList, 0)], 0, 0) := by
        unfold tokensR
        obtain ⟨⟨b, r, hl, _⟩, _⟩ := hp
        have hpos : 1 ≤ a0.size := by rw [← hsl, hl]; exact Nat.succ_pos _
        obtain ⟨m, hm⟩ : ∃ m, a0.size + 1 = m + 2 := ⟨a0.size - 1, by omega⟩
        rw [if_neg (by omega), hm, Lx.tok_name _ hn m]
        rfl
      rw [if_pos hn, hT]
      simp only
      rw [if_pos trivial, if_pos (by simp), if_pos (by simp), show rd_T33 [toS (2, a0.data.toList, 0)] 0 = toS (2, a0.data.toList, 0) from rfl]
      rw [if_pos (by rfl), if_pos (by rw [Lib.toList_data, Lib.toList_data]; rfl), awake_true, Option.bind_some]
    · rw [if_neg hn, awake_true, Option.bind_some]
  by_cases hn : Lx.isNm isKw a0.data.toList = true
  · have hk : isKw a0.data.toList = false := by
      have hp := Lx.isNm_parts hn
      rw [← Bool.not_eq_true]
      intro hk
      obtain ⟨hne, hup⟩ := kw_upper _ hk
      obtain ⟨⟨b, r, hl, _⟩, _, _, hno, _⟩ := hp
      have hb : b ∈ a0.data.toList := by rw [hl]; simp
      exact hno b hb (hup b hb)
    rw [if_pos hn, hk]
    exact hfin false (fun _ => rfl) (by decide)
  · rw [if_neg hn]
    exact hfin false (fun _ => rfl) (by decide)
end Go.Proofs.YtaibkpbiccibjaaDoor.PAll
