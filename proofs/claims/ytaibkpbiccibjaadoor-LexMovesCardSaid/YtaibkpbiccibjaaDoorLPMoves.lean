/- LexMoves without Go and memory: blanks or a remark in front move all tokens. -/
import Derived.Test.YtaibkpbiccibjaaDoorLPBase
import Derived.Test.YtaibkpbiccibjaaDoorLLMoves
set_option linter.unusedVariables false
namespace Go.Proofs.YtaibkpbiccibjaaDoor.PAll
open Go.RowKit Go.Proofs.YtaibkpbiccibjaaDoorW.PrintWords Go.Proofs.YtaibkpbiccibjaaDoorW.PrintLast Go.Proofs.YtaibkpbiccibjaaDoorW.PrintMore

theorem mapp_list (a b : ByteArray) : (a ++ b).data.toList = a.data.toList ++ b.data.toList := by
  rw [ByteArray.data_append]; simp
theorem msize_list (a : ByteArray) : a.size = a.data.toList.length := by simp
theorem mapp_size (a b : ByteArray) : (a ++ b).size = a.size + b.size := by rw [msize_list, mapp_list, List.length_append, ← msize_list, ← msize_list]

/-- What stands in front is skipped. -/
def Skips (f : ByteArray) : Prop := ∀ X : List UInt8, Lx.skipC false (f.data.toList ++ X) = f.size + Lx.skipC false X

theorem blanks_l0 (n : Nat) (kind : Int) (hn : n ≤ 255) : ∀ (d i k : Nat) (x : ByteArray), i + d = n → d < k → x.size ≤ i → (∀ b ∈ x.data.toList, Lx.isBl b = true) →
    ∃ f : ByteArray, jointerlaw02_blanks.l0 k (n : Int) kind x (i : Int) = some f ∧ f.size ≤ 255 ∧ ∀ b ∈ f.data.toList, Lx.isBl b = true := by
  intro d
  induction d with
  | zero =>
    intro i k x hi hk hx hb
    obtain ⟨k, rfl⟩ : ∃ m, k = m + 1 := ⟨k - 1, by omega⟩
    exact ⟨x, by rw [jointerlaw02_blanks.l0, if_neg (by omega)], by omega, hb⟩
  | succ d ih =>
    intro i k x hi hk hx hb
    obtain ⟨k, rfl⟩ : ∃ m, k = m + 1 := ⟨k - 1, by omega⟩
    have step : ∀ c : UInt8, Lx.isBl c = true → ∃ f : ByteArray, jointerlaw02_blanks.l0 k (n : Int) kind (x ++ (⟨#[c]⟩ : ByteArray)) (wrap64 ((i : Int) + 1)) = some f ∧ f.size ≤ 255 ∧ ∀ b ∈ f.data.toList, Lx.isBl b = true := by
      intro c hc
      rw [wrap_nat i (by omega)]
      refine ih (i + 1) k _ (by omega) (by omega) (by rw [mapp_size]; show x.size + 1 ≤ i + 1; omega) ?_
      intro b hbm
      rw [mapp_list] at hbm
      rcases List.mem_append.1 hbm with h | h
      · exact hb b h
      · simp at h; subst h; exact hc
    rw [jointerlaw02_blanks.l0, if_pos (by omega)]
    by_cases h0 : kind = 0
    · rw [if_pos h0, if_pos (by omega)]; exact step 32 rfl
    · rw [if_neg h0]
      by_cases h1 : kind = 1
      · rw [if_pos h1, if_pos (by omega)]; exact step 9 rfl
      · rw [if_neg h1]
        by_cases h2 : kind = 2
        · rw [if_pos h2, if_pos (by omega)]; exact step 13 rfl
        · rw [if_neg h2, if_pos (by omega)]; exact step 10 rfl

theorem moves_err (k : Nat) : ∀ (p : Nat) (l : List UInt8) (a : Nat) (e : Int), Lx.toks isKw marksL k p l = .bad a e → e ≠ 0 := by
  induction k with
  | zero => intro p l a e h; simp [Lx.toks] at h
  | succ k ih =>
    intro p l a e h
    rw [Lx.toks] at h
    cases hl : l.drop (Lx.skipC false l) with
    | nil => rw [hl] at h; simp at h
    | cons b r =>
      rw [hl] at h
      simp only at h
      cases ht : Lx.tokL isKw marksL (b :: r) with
      | bad e' => rw [ht] at h; cases h; exact tokL_bad ht
      | good kd t n =>
        rw [ht] at h
        simp only at h
        cases hr : Lx.toks isKw marksL k (p + Lx.skipC false l + n) ((b :: r).drop n) with
        | bad a' e' => rw [hr] at h; simp only [Lx.Tks.cons] at h; cases h; exact ih _ _ _ _ hr
        | good ts' => rw [hr] at h; simp only [Lx.Tks.cons] at h; cases h

theorem moves_bad (k : Nat) : ∀ (p : Nat) (l : List UInt8) (a : Nat) (e : Int), Lx.toks isKw marksL k p l = .bad a e → a ≤ p + l.length := by
  induction k with
  | zero => intro p l a e h; simp [Lx.toks] at h
  | succ k ih =>
    intro p l a e h
    have hsk := Lx.skip_le l false
    rw [Lx.toks] at h
    cases hl : l.drop (Lx.skipC false l) with
    | nil => rw [hl] at h; simp at h
    | cons b r =>
      rw [hl] at h
      simp only at h
      have h2 : (b :: r).length + Lx.skipC false l = l.length := by rw [← hl]; simp; omega
      cases ht : Lx.tokL isKw marksL (b :: r) with
      | bad e' => rw [ht] at h; cases h; omega
      | good kd t n =>
        rw [ht] at h
        simp only at h
        have h1 := Lx.tokL_pos marks_ne ht
        cases hr : Lx.toks isKw marksL k (p + Lx.skipC false l + n) ((b :: r).drop n) with
        | bad a' e' => rw [hr] at h; simp only [Lx.Tks.cons] at h; cases h; have := ih _ _ _ _ hr; rw [List.length_drop] at this; omega
        | good ts' => rw [hr] at h; simp only [Lx.Tks.cons] at h; cases h

theorem moves_j1 (x f : ByteArray) (hf : Skips f) (hx : x.size ≤ 140737488351232) (hfs : f.size ≤ 140737488360000) (k : Nat) (hk : 4002 ≤ k) : jointerlaw02_LexMoves.j1 k x f = some true := by
  obtain ⟨k, rfl⟩ : ∃ m, k = m + 1 := ⟨k - 1, by omega⟩
  have hw : wrap64 ((f.size : Int) + (x.size : Int)) = ((f.size + x.size : Nat) : Int) := by unfold wrap64; omega
  rw [jointerlaw02_LexMoves.j1, hw]
  by_cases hbig : 4000 < f.size + x.size
  · rw [if_pos (by omega), awake_true, Option.bind_some]
  · rw [if_neg (by omega)]
    have hfx : (f ++ x).size = f.size + x.size := mapp_size f x
    have hxl : x.data.toList.length = x.size := by simp
    have hfl : f.data.toList.length = f.size := by simp
    have hfr : Lx.toks isKw marksL ((f ++ x).size + 1) 0 (f ++ x).data.toList = (Lx.toks isKw marksL (x.size + 1) 0 x.data.toList).shift f.size := by
      rw [mapp_list, hfx]
      rw [Lx.toks_front isKw marksL (f.size + x.size) f.data.toList x.data.toList (by rw [hfl]; exact hf _), hfl]
      rw [Lx.toks_fuel isKw marksL marks_ne (f.size + x.size + 1) (x.size + 1) _ _ (by omega) (by omega)]
    cases ht : Lx.toks isKw marksL (x.size + 1) 0 x.data.toList with
    | bad p e =>
      rw [ht] at hfr
      have hT : tokensR x = ([], (p : Int), e) := by unfold tokensR; rw [if_neg (by omega), ht]
      have hT2 : tokensR (f ++ x) = ([], ((p + f.size : Nat) : Int), e) := by unfold tokensR; rw [if_neg (by omega), hfr]; rfl
      rw [lex_Tokens.f, Option.bind_some, if_pos (by omega), lex_Tokens.f, Option.bind_some, hT, hT2]
      simp only
      rw [if_pos trivial]
      have hpb : p ≤ 4001 := by
        have := moves_bad _ _ _ _ _ ht
        omega
      by_cases he : e = 0
      · exact absurd he (moves_err _ _ _ _ _ ht)
      · rw [if_neg he, if_pos (by rfl), if_pos (by rfl), if_pos (by unfold wrap64; omega), awake_true, Option.bind_some]
    | good ts =>
      rw [ht] at hfr
      obtain ⟨hlen, hpos⟩ := toks_pos _ _ _ _ ht
      have hT : tokensR x = (ts.map toS, 0, 0) := by unfold tokensR; rw [if_neg (by omega), ht]
      have hT2 : tokensR (f ++ x) = ((ts.map toS).map (shiftS f.size), 0, 0) := by
        unfold tokensR
        rw [if_neg (by omega), hfr]
        simp only [Lx.Tks.shift]
        rw [List.map_map, List.map_map]
        congr 1
      rw [lex_Tokens.f, Option.bind_some, if_pos (by omega), lex_Tokens.f, Option.bind_some, hT, hT2]
      simp only
      rw [if_pos trivial, if_pos trivial]
      rw [same_true _ _ ?_ (by rw [List.length_map]; omega) _ (by rw [List.length_map]; omega), Option.bind_some, if_pos rfl, awake_true, Option.bind_some]
      intro y hy
      obtain ⟨z, hz, rfl⟩ := List.mem_map.1 hy
      have := hpos z hz
      show wrap64 ((z.2.2 : Int) + f.size) = (z.2.2 : Int) + f.size
      unfold wrap64
      omega

theorem moves_l0 (x words b : ByteArray) (hx : x.size ≤ 140737488351232) (hw : words.size ≤ 140737488351232) (hb : b.size ≤ 255) (hbl : ∀ c ∈ b.data.toList, Lx.isBl c = true) :
    ∀ (d i k : Nat), i + d = words.size → d + 4010 < k → (∀ j (hj : j < words.size), j < i → words[j].toNat ≠ 10) → jointerlaw02_LexMoves.l0 k x words b (i : Int) = some true := by
  have hbs : Skips b := fun X => by rw [Lx.skip_blanks X _ hbl]; simp
  intro d
  induction d with
  | zero =>
    intro i k hi hk hno
    obtain ⟨k, rfl⟩ : ∃ m, k = m + 1 := ⟨k - 1, by omega⟩
    rw [jointerlaw02_LexMoves.l0, if_neg (by omega)]
    by_cases he : words.toList = ([] : List UInt8)
    · rw [if_pos he]; exact moves_j1 x b hbs hx (by omega) k (by omega)
    · have hs1 : ((⟨#[45, 45]⟩ : ByteArray) ++ words).size = 2 + words.size := mapp_size _ _
      have hs2 : (((⟨#[45, 45]⟩ : ByteArray) ++ words) ++ (⟨#[10]⟩ : ByteArray)).size = 2 + words.size + 1 := by rw [mapp_size, hs1]; rfl
      rw [if_neg he, if_pos (by omega), if_pos (by omega), if_pos (by omega)]
      refine moves_j1 x _ ?_ hx (by rw [mapp_size, hs2]; omega) k (by omega)
      intro X
      have e : (b ++ (((⟨#[45, 45]⟩ : ByteArray) ++ words) ++ (⟨#[10]⟩ : ByteArray))).data.toList ++ X = b.data.toList ++ (45 :: 45 :: (words.data.toList ++ 10 :: X)) := by
        rw [mapp_list, mapp_list, mapp_list]
        simp
      have hnl : ∀ c ∈ words.data.toList, c.toNat ≠ 10 := by
        intro c hc
        obtain ⟨j, hj, rfl⟩ := List.getElem_of_mem hc
        have hj' : j < words.size := by simpa using hj
        exact hno j hj' (by omega)
      rw [e, Lx.skip_blanks _ _ hbl, Lx.skip_line X _ hnl, mapp_size, hs2]
      simp
      omega
  | succ d ih =>
    intro i k hi hk hno
    obtain ⟨k, rfl⟩ : ∃ m, k = m + 1 := ⟨k - 1, by omega⟩
    have hlt : i < words.size := by omega
    rw [jointerlaw02_LexMoves.l0, if_pos (by omega), if_pos (by omega), bt_nat hlt, wrap_nat i (by omega)]
    by_cases h10 : ((words[i].toNat : Nat) : Int) = 10
    · rw [if_pos h10]
      obtain ⟨k, rfl⟩ : ∃ m, k = m + 1 := ⟨k - 1, by omega⟩
      rw [jointerlaw02_LexMoves.l0, if_neg (by show ¬ _ < ((0 : Nat) : Int); omega), if_pos (by rw [Lib.toList_data])]
      exact moves_j1 x b hbs hx (by omega) k (by omega)
    · rw [if_neg h10]
      refine ih (i + 1) k (by omega) (by omega) ?_
      intro j hj hji
      rcases Nat.lt_or_ge j i with h | h
      · exact hno j hj h
      · obtain rfl : j = i := by omega
        omega

theorem LexMoves : jointerlaw02_LexMoves.Pure := by
  intro a0 a1 a2 a3 h0 h1 h2 h3
  have h2' : 0 ≤ a2 ∧ a2 ≤ 255 := by
    simpa [Lit.wf, IntKind.min, IntKind.max, IntKind.bits, IntKind.signed] using h2
  obtain ⟨n, rfl⟩ := Int.eq_ofNat_of_zero_le h2'.1
  have hn : n ≤ 255 := by omega
  obtain ⟨b, hb1, hb2, hb3⟩ := blanks_l0 n a3 hn n 0 (a1.size + 4100 + n) ⟨#[]⟩ (by omega) (by omega) (by show 0 ≤ 0; omega) (by simp)
  refine ⟨a1.size + 4100 + n, ?_⟩
  unfold jointerlaw02_LexMoves.f jointerlaw02_blanks.f
  rw [show wrap64 ((n : Nat) : Int) = (n : Int) by unfold wrap64; omega]
  rw [show ((0 : Nat) : Int) = (0 : Int) from rfl] at hb1
  rw [hb1, Option.bind_some]
  exact moves_l0 a0 a1 b h0 h1 hb2 hb3 a1.size 0 _ (by omega) (by omega) (fun j hj h => by omega)
end Go.Proofs.YtaibkpbiccibjaaDoor.PAll
