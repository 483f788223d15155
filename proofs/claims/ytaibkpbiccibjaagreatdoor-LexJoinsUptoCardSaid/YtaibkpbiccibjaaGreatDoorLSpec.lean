/- The lexer without Go and memory: what is skipped, the token at a place, all tokens, and what holds of them. -/
set_option linter.unusedVariables false
namespace Go.Proofs.YtaibkpbiccibjaaGreatDoor.Lx

abbrev Bs := List UInt8
def isLet (b : UInt8) : Bool := (decide (97 ≤ b.toNat) && decide (b.toNat ≤ 122)) || (decide (65 ≤ b.toNat) && decide (b.toNat ≤ 90)) || decide (b.toNat = 95)
def isDig (b : UInt8) : Bool := decide (48 ≤ b.toNat) && decide (b.toNat ≤ 57)
def isBl (b : UInt8) : Bool := decide (b.toNat = 32) || decide (b.toNat = 9) || decide (b.toNat = 10) || decide (b.toNat = 13)
def isWord (b : UInt8) : Bool := isLet b || isDig b
def up (b : UInt8) : UInt8 := if 97 ≤ b.toNat ∧ b.toNat ≤ 122 then b - 32 else b
def low (b : UInt8) : UInt8 := if 65 ≤ b.toNat ∧ b.toNat ≤ 90 then b + 32 else b

/-- How many bytes are skipped; true: within a remark. -/
def skipC : Bool → Bs → Nat
  | _, [] => 0
  | true, b :: r => if b.toNat = 10 then skipC false r + 1 else skipC true r + 1
  | false, b :: r => if isBl b = true then skipC false r + 1 else (if b.toNat = 45 ∧ r.head? = some 45 then skipC true r + 1 else 0)

/-- The text behind a quote, and how many bytes it takes. -/
def quo : Bs → Option (Bs × Nat)
  | [] => none
  | [c] => if c = 39 then some ([], 1) else none
  | c :: d :: t => if c = 39 then (if d = 39 then (quo t).map fun x => (39 :: x.1, x.2 + 2) else some ([], 1)) else (quo (d :: t)).map fun x => (c :: x.1, x.2 + 1)

def digStep (n : Nat) (b : UInt8) : Nat := n * 10 + (b.toNat - 48)
def numD (l : Bs) : Nat := l.foldl digStep 0

inductive Tk where
  | bad (e : Int)
  | good (kind : Int) (text : Bs) (n : Nat)

/-- The token at the head. -/
def tokL (kw : Bs → Bool) (marks : List Bs) (l : Bs) : Tk :=
  match l with
  | [] => .bad 20
  | b :: r =>
    if isLet b = true then
      let w := l.takeWhile isWord
      if kw (w.map up) = true then .good 1 (w.map up) w.length
      else (if 20 < w.length then .bad 22 else .good 2 (w.map low) w.length)
    else if isDig b = true then
      let d := l.takeWhile isDig
      if 9223372036854775808 < numD d then .bad 23
      else (if ((l.drop d.length).head?.map isLet).getD false = true then .bad 24 else .good 3 d d.length)
    else if b.toNat = 39 then
      match quo r with
      | none => .bad 21
      | some (x, n) => if 100 < x.length then .bad 5 else .good 4 x (n + 1)
    else match marks.find? (fun m => m.isPrefixOf l) with
      | none => .bad 20
      | some m => .good 5 m m.length

inductive Tks where
  | bad (at_ : Nat) (e : Int)
  | good (l : List (Int × Bs × Nat))

def Tks.cons (x : Int × Bs × Nat) : Tks → Tks
  | .bad a e => .bad a e
  | .good l => .good (x :: l)

/-- All tokens from a place on. -/
def toks (kw : Bs → Bool) (marks : List Bs) : Nat → Nat → Bs → Tks
  | 0, _, _ => .good []
  | k + 1, p, l =>
    match l.drop (skipC false l) with
    | [] => .good []
    | l' => match tokL kw marks l' with
      | .bad e => .bad (p + skipC false l) e
      | .good kd t n => (toks kw marks k (p + skipC false l + n) (l'.drop n)).cons (kd, t, p + skipC false l)

theorem skip_le : ∀ (l : Bs) (m : Bool), skipC m l ≤ l.length
  | [], m => by cases m <;> simp [skipC]
  | b :: r, true => by
    have h1 := skip_le r true
    have h2 := skip_le r false
    unfold skipC
    split <;> simp <;> omega
  | b :: r, false => by
    have h1 := skip_le r true
    have h2 := skip_le r false
    unfold skipC
    split
    · simp; omega
    · split <;> simp <;> omega

theorem skip_take : ∀ (l : Bs) (m : Bool) (p : Nat), skipC m l ≤ p → skipC m (l.take p) = skipC m l
  | [], m, p, _ => by simp
  | b :: r, true, p, h => by
    have h' : 1 ≤ skipC true (b :: r) := by unfold skipC; split <;> omega
    obtain ⟨q, rfl⟩ : ∃ q, p = q + 1 := ⟨p - 1, by omega⟩
    rw [List.take_succ_cons]
    unfold skipC at h ⊢
    split
    · rename_i hc
      rw [if_pos hc] at h
      rw [skip_take r false q (by omega)]
    · rename_i hc
      rw [if_neg hc] at h
      rw [skip_take r true q (by omega)]
  | b :: r, false, p, h => by
    by_cases hb : isBl b = true
    · have e : ∀ x, skipC false (b :: x) = skipC false x + 1 := fun x => by rw [skipC, if_pos hb]
      rw [e] at h ⊢
      obtain ⟨q, rfl⟩ : ∃ q, p = q + 1 := ⟨p - 1, by omega⟩
      rw [List.take_succ_cons, e, skip_take r false q (by omega)]
    · by_cases hd : b.toNat = 45 ∧ r.head? = some 45
      · have e : skipC false (b :: r) = skipC true r + 1 := by rw [skipC, if_neg hb, if_pos hd]
        rw [e] at h ⊢
        obtain ⟨q, rfl⟩ : ∃ q, p = q + 1 := ⟨p - 1, by omega⟩
        have h2 : 1 ≤ skipC true r := by
          cases r with
          | nil => simp at hd
          | cons c t => unfold skipC; split <;> omega
        obtain ⟨q', rfl⟩ : ∃ q', q = q' + 1 := ⟨q - 1, by omega⟩
        have hd' : b.toNat = 45 ∧ (r.take (q' + 1)).head? = some 45 := by
          refine ⟨hd.1, ?_⟩
          cases r with
          | nil => simp at hd
          | cons c t => simpa using hd.2
        rw [List.take_succ_cons, skipC, if_neg hb, if_pos hd', skip_take r true (q' + 1) (by omega)]
      · have e : skipC false (b :: r) = 0 := by rw [skipC, if_neg hb, if_neg hd]
        rw [e]
        cases p with
        | zero => simp [skipC]
        | succ q =>
          rw [List.take_succ_cons, skipC, if_neg hb, if_neg]
          rintro ⟨h1, h2⟩
          refine hd ⟨h1, ?_⟩
          cases r with
          | nil => simp at h2
          | cons c t =>
            cases q with
            | zero => simp at h2
            | succ q => simpa using h2

theorem skip_blanks (x : Bs) : ∀ (f : Bs), (∀ b ∈ f, isBl b = true) → skipC false (f ++ x) = f.length + skipC false x
  | [], _ => by simp
  | b :: f, h => by
    rw [List.cons_append, skipC, if_pos (h b (by simp)), skip_blanks x f (fun c hc => h c (by simp [hc]))]
    simp; omega
theorem skip_remark (x : Bs) : ∀ (f : Bs), (∀ b ∈ f, b.toNat ≠ 10) → skipC true (f ++ 10 :: x) = f.length + 1 + skipC false x
  | [], _ => by simp [skipC]; omega
  | b :: f, h => by
    rw [List.cons_append, skipC, if_neg (h b (by simp)), skip_remark x f (fun c hc => h c (by simp [hc]))]
    simp; omega
theorem skip_line (x f : Bs) (h : ∀ b ∈ f, b.toNat ≠ 10) : skipC false (45 :: 45 :: (f ++ 10 :: x)) = f.length + 3 + skipC false x := by
  have e : skipC true (45 :: (f ++ 10 :: x)) = f.length + 2 + skipC false x := by
    rw [skipC, if_neg (by decide), skip_remark x f h]; omega
  rw [skipC, if_neg (by decide), if_pos ⟨by decide, rfl⟩, e]; omega

theorem takeWhile_len {p : UInt8 → Bool} : ∀ (l : Bs), (l.takeWhile p).length ≤ l.length
  | [] => by simp
  | b :: r => by
    have := takeWhile_len (p := p) r
    rw [List.takeWhile_cons]
    split <;> simp <;> omega
theorem takeWhile_take {p : UInt8 → Bool} : ∀ (l : Bs) (q : Nat), (l.takeWhile p).length ≤ q → (l.take q).takeWhile p = l.takeWhile p
  | [], q, _ => by simp
  | b :: r, q, h => by
    by_cases hb : p b = true
    · rw [List.takeWhile_cons, if_pos hb] at h ⊢
      obtain ⟨q', rfl⟩ : ∃ q', q = q' + 1 := ⟨q - 1, by simp at h; omega⟩
      rw [List.take_succ_cons, List.takeWhile_cons, if_pos hb, takeWhile_take r q' (by simp at h; omega)]
    · rw [List.takeWhile_cons, if_neg hb]
      cases q with
      | zero => simp
      | succ q => rw [List.take_succ_cons, List.takeWhile_cons, if_neg hb]

theorem quo_le : ∀ (n : Nat) (l : Bs), l.length ≤ n → ∀ x, quo l = some x → 1 ≤ x.2 ∧ x.2 ≤ l.length ∧ x.1.length ≤ x.2
  | 0, [], _, x, h => by simp [quo] at h
  | n + 1, [], _, x, h => by simp [quo] at h
  | n + 1, [c], _, x, h => by
    unfold quo at h
    split at h
    · cases h; simp
    · cases h
  | n + 1, c :: d :: t, hn, x, h => by
    unfold quo at h
    split at h
    · split at h
      · obtain ⟨y, hy, rfl⟩ := Option.map_eq_some_iff.1 h
        have := quo_le n t (by simp at hn; omega) y hy
        simp; omega
      · cases h; simp
    · obtain ⟨y, hy, rfl⟩ := Option.map_eq_some_iff.1 h
      have := quo_le n (d :: t) (by simp at hn ⊢; omega) y hy
      simp at this ⊢; omega

theorem quo_take : ∀ (n : Nat) (l : Bs), l.length ≤ n → ∀ x q, quo l = some x → x.2 ≤ q → quo (l.take q) = some x
  | 0, [], _, x, q, h, hq => by simp [quo] at h
  | n + 1, [], _, x, q, h, hq => by simp [quo] at h
  | n + 1, [c], _, x, q, h, hq => by
    have := (quo_le _ _ (Nat.le_refl _) x h).1
    rw [List.take_of_length_le (by simp; omega)]; exact h
  | n + 1, c :: d :: t, hn, x, q, h, hq => by
    have h' := h
    unfold quo at h
    split at h
    · rename_i hc
      split at h
      · rename_i hd
        obtain ⟨y, hy, rfl⟩ := Option.map_eq_some_iff.1 h
        obtain ⟨q', rfl⟩ : ∃ q', q = q' + 2 := ⟨q - 2, by simp at hq; omega⟩
        rw [List.take_succ_cons, List.take_succ_cons, quo, if_pos hc, if_pos hd, quo_take n t (by simp at hn; omega) y q' hy (by simp at hq; omega)]
        rfl
      · rename_i hd
        cases h
        obtain ⟨q', rfl⟩ : ∃ q', q = q' + 1 := ⟨q - 1, by simp at hq; omega⟩
        rw [List.take_succ_cons]
        cases q' with
        | zero => simp [quo, hc]
        | succ q' => rw [List.take_succ_cons, quo, if_pos hc, if_neg hd]
    · rename_i hc
      obtain ⟨y, hy, rfl⟩ := Option.map_eq_some_iff.1 h
      have hy1 := (quo_le _ _ (Nat.le_refl _) y hy).1
      obtain ⟨q', rfl⟩ : ∃ q', q = q' + 1 := ⟨q - 1, by simp at hq; omega⟩
      have ih := quo_take n (d :: t) (by simp at hn ⊢; omega) y q' hy (by simp at hq; omega)
      obtain ⟨q2, rfl⟩ : ∃ q2, q' = q2 + 1 := ⟨q' - 1, by simp at hq; omega⟩
      rw [List.take_succ_cons, List.take_succ_cons, quo, if_neg hc]
      rw [List.take_succ_cons] at ih
      rw [ih]; rfl

theorem isLet_word {b : UInt8} (h : isLet b = true) : isWord b = true := by simp [isWord, h]

/-- What a good token takes. -/
theorem tokL_pos {kw : Bs → Bool} {marks : List Bs} (hm : ∀ m ∈ marks, m ≠ []) {l : Bs} {kd : Int} {t : Bs} {n : Nat} (h : tokL kw marks l = .good kd t n) : 1 ≤ n ∧ n ≤ l.length := by
  cases l with
  | nil => simp [tokL] at h
  | cons b r =>
    unfold tokL at h
    simp only at h
    by_cases hb : isLet b = true
    · rw [if_pos hb] at h
      have h1 : 1 ≤ ((b :: r).takeWhile isWord).length := by rw [List.takeWhile_cons, if_pos (isLet_word hb)]; simp
      have h2 := takeWhile_len (p := isWord) (b :: r)
      split at h
      · cases h; exact ⟨h1, h2⟩
      · split at h
        · cases h
        · cases h; exact ⟨h1, h2⟩
    · rw [if_neg hb] at h
      by_cases hd : isDig b = true
      · rw [if_pos hd] at h
        have h1 : 1 ≤ ((b :: r).takeWhile isDig).length := by rw [List.takeWhile_cons, if_pos hd]; simp
        have h2 := takeWhile_len (p := isDig) (b :: r)
        split at h
        · cases h
        · split at h
          · cases h
          · cases h; exact ⟨h1, h2⟩
      · rw [if_neg hd] at h
        by_cases hq : b.toNat = 39
        · rw [if_pos hq] at h
          cases hqu : quo r with
          | none => rw [hqu] at h; cases h
          | some x =>
            rw [hqu] at h
            have := quo_le _ r (Nat.le_refl _) x hqu
            obtain ⟨x1, x2⟩ := x
            simp only at h
            split at h
            · cases h
            · cases h; simp at this ⊢; omega
        · rw [if_neg hq] at h
          cases hf : marks.find? (fun m => m.isPrefixOf (b :: r)) with
          | none => rw [hf] at h; cases h
          | some m =>
            rw [hf] at h
            have h1 := List.mem_of_find?_eq_some hf
            have h2 : List.isPrefixOf m (b :: r) = true := List.find?_some (p := fun m => List.isPrefixOf m (b :: r)) hf
            have h3 : m <+: (b :: r) := List.isPrefixOf_iff_prefix.1 h2
            cases h
            exact ⟨Nat.pos_of_ne_zero fun e => hm t h1 (List.length_eq_zero_iff.1 e), h3.length_le⟩

theorem find_congr {p q : Bs → Bool} : ∀ (l : List Bs) (m : Bs), l.find? p = some m → q m = true → (∀ x ∈ l, q x = true → p x = true) → l.find? q = some m
  | [], m, h, _, _ => by simp at h
  | x :: l, m, h, hm, hpq => by
    rw [List.find?_cons] at h ⊢
    cases hp : p x with
    | true => rw [hp] at h; simp at h; subst h; rw [hm]
    | false =>
      rw [hp] at h
      have hq : q x = false := by
        cases hq : q x with
        | false => rfl
        | true => rw [hpq x (by simp) hq] at hp; cases hp
      rw [hq]
      exact find_congr l m h hm (fun y hy => hpq y (by simp [hy]))

theorem head_drop_take (l : Bs) (n q : Nat) : ((l.take q).drop n).head? = none ∨ ((l.take q).drop n).head? = (l.drop n).head? := by
  by_cases h : n < q
  · right
    rw [List.head?_drop, List.head?_drop, List.getElem?_take, if_pos h]
  · left
    rw [List.head?_drop, List.getElem?_take, if_neg h]

/-- A token is the same where the source ends behind it. -/
theorem tokL_take {kw : Bs → Bool} {marks : List Bs} (hm : ∀ m ∈ marks, m ≠ []) {l : Bs} {kd : Int} {t : Bs} {n q : Nat} (h : tokL kw marks l = .good kd t n) (hq : n ≤ q) : tokL kw marks (l.take q) = .good kd t n := by
  have hn := (tokL_pos hm h).1
  cases l with
  | nil => simp [tokL] at h
  | cons b r =>
    obtain ⟨p, rfl⟩ : ∃ p, q = p + 1 := ⟨q - 1, by omega⟩
    have htake : (b :: r).take (p + 1) = b :: r.take p := by rw [List.take_succ_cons]
    unfold tokL at h
    simp only at h
    rw [htake]
    unfold tokL
    simp only
    rw [← htake]
    by_cases hb : isLet b = true
    · rw [if_pos hb] at h ⊢
      have hw : ((b :: r).takeWhile isWord).length ≤ p + 1 := by
        split at h
        · cases h; exact hq
        · split at h
          · cases h
          · cases h; exact hq
      rw [takeWhile_take _ _ hw]
      exact h
    · rw [if_neg hb] at h ⊢
      by_cases hd : isDig b = true
      · rw [if_pos hd] at h ⊢
        by_cases hbig : 9223372036854775808 < numD ((b :: r).takeWhile isDig)
        · rw [if_pos hbig] at h; cases h
        rw [if_neg hbig] at h
        by_cases hx : ((((b :: r).drop ((b :: r).takeWhile isDig).length).head?).map isLet).getD false = true
        · rw [if_pos hx] at h; cases h
        rw [if_neg hx] at h
        cases h
        rw [takeWhile_take _ _ hq, if_neg hbig, if_neg]
        rcases head_drop_take (b :: r) ((b :: r).takeWhile isDig).length (p + 1) with e | e
        · rw [e]; simp
        · rw [e]; exact hx
      · rw [if_neg hd] at h ⊢
        by_cases hqt : b.toNat = 39
        · rw [if_pos hqt] at h ⊢
          cases hqu : quo r with
          | none => rw [hqu] at h; cases h
          | some x =>
            rw [hqu] at h
            obtain ⟨x1, x2⟩ := x
            simp only at h
            by_cases hl : 100 < x1.length
            · rw [if_pos hl] at h; cases h
            rw [if_neg hl] at h
            cases h
            rw [quo_take _ r (Nat.le_refl _) _ p hqu (by simp; omega)]
            simp only
            rw [if_neg hl]
        · rw [if_neg hqt] at h ⊢
          cases hf : marks.find? (fun m => m.isPrefixOf (b :: r)) with
          | none => rw [hf] at h; cases h
          | some m =>
            rw [hf] at h
            cases h
            have h2' : List.isPrefixOf t (b :: r) = true := List.find?_some (p := fun m => List.isPrefixOf m (b :: r)) hf
            have h2 : t <+: (b :: r) := List.isPrefixOf_iff_prefix.1 h2'
            rw [find_congr (q := fun m => m.isPrefixOf ((b :: r).take (p + 1))) marks t hf]
            · exact List.isPrefixOf_iff_prefix.2 (List.prefix_take_iff.2 ⟨h2, hq⟩)
            · intro y _ hy
              exact List.isPrefixOf_iff_prefix.2 ((List.isPrefixOf_iff_prefix.1 hy).trans (List.take_prefix _ _))

def Tks.shift (d : Nat) : Tks → Tks
  | .bad a e => .bad (a + d) e
  | .good l => .good (l.map fun x => (x.1, x.2.1, x.2.2 + d))

theorem Tks.shift_cons (d : Nat) (x : Int × Bs × Nat) (t : Tks) : (t.cons x).shift d = (t.shift d).cons (x.1, x.2.1, x.2.2 + d) := by
  cases t <;> rfl

theorem toks_shift (kw : Bs → Bool) (marks : List Bs) (d : Nat) : ∀ (k p : Nat) (l : Bs), toks kw marks k (p + d) l = (toks kw marks k p l).shift d
  | 0, p, l => by simp [toks, Tks.shift]
  | k + 1, p, l => by
    unfold toks
    cases hl : l.drop (skipC false l) with
    | nil => rfl
    | cons b r =>
      simp only
      cases ht : tokL kw marks (b :: r) with
      | bad e => simp [Tks.shift]; omega
      | good kd t n =>
        simp only
        rw [show p + d + skipC false l + n = (p + skipC false l + n) + d by omega, toks_shift kw marks d k, Tks.shift_cons]
        simp only
        rw [show p + d + skipC false l = p + skipC false l + d by omega]

theorem toks_fuel (kw : Bs → Bool) (marks : List Bs) (hm : ∀ m ∈ marks, m ≠ []) : ∀ (k k' p : Nat) (l : Bs), l.length < k → l.length < k' → toks kw marks k p l = toks kw marks k' p l
  | 0, _, _, _, h, _ => by omega
  | k + 1, 0, _, _, _, h => by omega
  | k + 1, k' + 1, p, l, h, h' => by
    unfold toks
    cases hl : l.drop (skipC false l) with
    | nil => rfl
    | cons b r =>
      simp only
      cases ht : tokL kw marks (b :: r) with
      | bad e => rfl
      | good kd t n =>
        simp only
        have h1 := tokL_pos hm ht
        have h2 : (b :: r).length ≤ l.length := by rw [← hl]; simp
        have h3 : ((b :: r).drop n).length < k ∧ ((b :: r).drop n).length < k' := by rw [List.length_drop]; omega
        rw [toks_fuel kw marks hm k k' _ _ h3.1 h3.2]

/-- What stands in front and is skipped moves all tokens. -/
theorem toks_front (kw : Bs → Bool) (marks : List Bs) (k : Nat) (f l : Bs) (hf : skipC false (f ++ l) = f.length + skipC false l) : toks kw marks (k + 1) 0 (f ++ l) = (toks kw marks (k + 1) 0 l).shift f.length := by
  rw [← toks_shift]
  unfold toks
  rw [hf, show 0 + (f.length + skipC false l) = 0 + f.length + skipC false l by omega]
  have : (f ++ l).drop (f.length + skipC false l) = l.drop (skipC false l) := by
    rw [← List.drop_drop]; simp
  rw [this]

/-- A source that ends before a token has the tokens before it. -/
theorem toks_cut (kw : Bs → Bool) (marks : List Bs) (hm : ∀ m ∈ marks, m ≠ []) : ∀ (k p : Nat) (l : Bs) (ts : List (Int × Bs × Nat)) (j : Nat) (x : Int × Bs × Nat),
    toks kw marks k p l = .good ts → ts[j]? = some x → p ≤ x.2.2 ∧ x.2.2 ≤ p + l.length ∧ toks kw marks k p (l.take (x.2.2 - p)) = .good (ts.take j)
  | 0, p, l, ts, j, x, h, hj => by
    simp [toks] at h; subst h; simp at hj
  | k + 1, p, l, ts, j, x, h, hj => by
    have hsk := skip_le l false
    unfold toks at h
    cases hl : l.drop (skipC false l) with
    | nil => rw [hl] at h; simp at h; subst h; simp at hj
    | cons b r =>
      rw [hl] at h
      simp only at h
      cases ht : tokL kw marks (b :: r) with
      | bad e => rw [ht] at h; cases h
      | good kd t n =>
        rw [ht] at h
        simp only at h
        cases hr : toks kw marks k (p + skipC false l + n) ((b :: r).drop n) with
        | bad a e => rw [hr] at h; cases h
        | good ts' =>
          rw [hr] at h
          simp only [Tks.cons] at h
          cases h
          have h1 := tokL_pos hm ht
          have h2 : (b :: r).length + skipC false l = l.length := by rw [← hl]; simp; omega
          cases j with
          | zero =>
            simp at hj
            subst hj
            simp only
            refine ⟨by omega, by omega, ?_⟩
            rw [show p + skipC false l - p = skipC false l by omega]
            unfold toks
            rw [skip_take l false _ (Nat.le_refl _)]
            have : (l.take (skipC false l)).drop (skipC false l) = [] := by simp
            rw [this]
            simp
          | succ j =>
            have hj' : ts'[j]? = some x := by simpa using hj
            obtain ⟨g1, g2, g3⟩ := toks_cut kw marks hm k _ _ ts' j x hr hj'
            rw [List.length_drop] at g2
            refine ⟨by omega, by omega, ?_⟩
            unfold toks
            rw [skip_take l false _ (by omega)]
            have e : (l.take (x.2.2 - p)).drop (skipC false l) = (b :: r).take (x.2.2 - p - skipC false l) := by
              rw [List.drop_take, hl]
            obtain ⟨q, hq⟩ : ∃ q, x.2.2 - p - skipC false l = q + 1 := ⟨x.2.2 - p - skipC false l - 1, by omega⟩
            have e2 : (b :: r).take (x.2.2 - p - skipC false l) = b :: r.take q := by rw [hq, List.take_succ_cons]
            rw [e, e2]
            simp only
            rw [← e2, tokL_take hm ht (by omega)]
            simp only
            have e3 : ((b :: r).take (x.2.2 - p - skipC false l)).drop n = ((b :: r).drop n).take (x.2.2 - (p + skipC false l + n)) := by
              rw [List.drop_take]; congr 1; omega
            rw [e3, g3]
            rfl

/-! ### Texts -/
def qt : Bs → Bs
  | [] => []
  | c :: t => if c = 39 then 39 :: 39 :: qt t else c :: qt t
theorem qt_len : ∀ l : Bs, l.length ≤ (qt l).length
  | [] => by simp
  | c :: t => by
    have := qt_len t
    unfold qt
    split <;> simp <;> omega
theorem quo_qt (R : Bs) (hR : R.head? ≠ some 39) : ∀ s : Bs, quo (qt s ++ 39 :: R) = some (s, (qt s).length + 1)
  | [] => by
    cases R with
    | nil => simp [qt, quo]
    | cons d t =>
      have : d ≠ 39 := fun e => hR (by simp [e])
      simp [qt, quo, this]
  | c :: t => by
    have ih := quo_qt R hR t
    unfold qt
    by_cases h : c = 39
    · rw [if_pos h]
      simp only [List.cons_append]
      rw [quo, if_pos rfl, if_pos rfl, ih, h]
      simp
    · rw [if_neg h]
      rw [List.cons_append]
      cases hx : qt t ++ 39 :: R with
      | nil => simp at hx
      | cons d x =>
        rw [quo, if_neg h, ← hx, ih]
        simp

/-! ### Names, and what tokens are -/
def isNm (kw : Bs → Bool) (s : Bs) : Bool := !s.isEmpty && decide (s.length ≤ 20) && (s.head?.map isLet).getD false && s.all (fun b => isWord b && !(decide (65 ≤ b.toNat) && decide (b.toNat ≤ 90))) && !kw (s.map up)

theorem takeWhile_all {p : UInt8 → Bool} : ∀ (t R : Bs), (∀ b ∈ t, p b = true) → (R.head?.map p).getD false = false → (t ++ R).takeWhile p = t
  | [], R, _, h => by
    cases R with
    | nil => rfl
    | cons b r => simp at h; simp [h]
  | b :: t, R, h, hR => by
    rw [List.cons_append, List.takeWhile_cons, if_pos (h b (by simp)), takeWhile_all t R (fun c hc => h c (by simp [hc])) hR]

def tokOk (kw : Bs → Bool) (marks : List Bs) (x : Int × Bs) : Bool :=
  (decide (x.1 = 1) && kw x.2) || (decide (x.1 = 2) && isNm kw x.2) || (decide (x.1 = 3) && (!x.2.isEmpty && x.2.all isDig && decide (x.2.length ≤ 4000) && decide (numD x.2 ≤ 9223372036854775808))) || (decide (x.1 = 4) && decide (x.2.length ≤ 100)) || (decide (x.1 = 5) && marks.contains x.2)

def written (x : Int × Bs) : Bs := if x.1 = 4 then 39 :: (qt x.2 ++ [39]) else x.2
def near (a b : Int × Bs) : Bool := (decide (a.1 = 5) && (decide (a.2 = [40]) || decide (a.2 = [46]))) || (decide (b.1 = 5) && (decide (b.2 = [44]) || decide (b.2 = [41]) || decide (b.2 = [46]) || decide (b.2 = [59])))

def joinF : Option (Int × Bs) → List (Int × Bs) → Bs
  | _, [] => []
  | none, t :: r => written t ++ joinF (some t) r
  | some a, t :: r => (if near a t = true then [] else [32]) ++ (written t ++ joinF (some t) r)

/-- What may stand behind a token. -/
def Sep (x : Int × Bs) (R : Bs) : Prop := R = [] ∨ (x.1 = 5 ∧ (x.2 = [40] ∨ x.2 = [46])) ∨ ∃ c r, R = c :: r ∧ (c = 32 ∨ c = 44 ∨ c = 41 ∨ c = 46 ∨ c = 59)

theorem sep_word {x : Int × Bs} {R : Bs} (h : Sep x R) (hx : x.1 ≠ 5) : (R.head?.map isWord).getD false = false ∧ (R.head?.map isLet).getD false = false ∧ (R.head?.map isDig).getD false = false ∧ R.head? ≠ some 39 := by
  rcases h with rfl | h | ⟨c, r, rfl, h⟩
  · simp
  · exact absurd h.1 hx
  · rcases h with rfl | rfl | rfl | rfl | rfl <;> exact ⟨rfl, rfl, rfl, by simp⟩

theorem not_bl_let {b : UInt8} (h : isLet b = true) : isBl b = false ∧ b.toNat ≠ 45 := by
  unfold isLet at h; unfold isBl
  simp at h ⊢
  omega
theorem not_bl_dig {b : UInt8} (h : isDig b = true) : isBl b = false ∧ b.toNat ≠ 45 ∧ isLet b = false := by
  unfold isDig at h; unfold isBl isLet
  simp at h ⊢
  omega

theorem skip_zero {b : UInt8} {r : Bs} (h1 : isBl b = false) (h2 : b.toNat ≠ 45) : skipC false (b :: r) = 0 := by
  rw [skipC, if_neg (by simp [h1]), if_neg (fun h => h2 h.1)]

theorem up_of_upper {b : UInt8} (h : 65 ≤ b.toNat ∧ b.toNat ≤ 90) : up b = b := by unfold up; rw [if_neg (by omega)]
theorem low_of_lower {b : UInt8} (h : ¬ (65 ≤ b.toNat ∧ b.toNat ≤ 90)) : low b = b := by unfold low; rw [if_neg h]
theorem map_id_of {f : UInt8 → UInt8} : ∀ (l : Bs), (∀ b ∈ l, f b = b) → l.map f = l
  | [], _ => rfl
  | b :: l, h => by rw [List.map_cons, h b (by simp), map_id_of l (fun c hc => h c (by simp [hc]))]

structure KwOk (kw : Bs → Bool) : Prop where
  upper : ∀ l, kw l = true → l ≠ [] ∧ ∀ b ∈ l, 65 ≤ b.toNat ∧ b.toNat ≤ 90

theorem tok_word {kw : Bs → Bool} {marks : List Bs} (t R : Bs) (b : UInt8) (r : Bs) (ht : t = b :: r) (hb : isLet b = true) (hall : ∀ c ∈ t, isWord c = true) (hR : (R.head?.map isWord).getD false = false) :
    skipC false (t ++ R) = 0 ∧ tokL kw marks (t ++ R) = if kw (t.map up) = true then .good 1 (t.map up) t.length else (if 20 < t.length then .bad 22 else .good 2 (t.map low) t.length) := by
  have hw := takeWhile_all t R hall hR
  subst ht
  constructor
  · rw [List.cons_append]; exact skip_zero (not_bl_let hb).1 (not_bl_let hb).2
  · rw [List.cons_append] at hw ⊢
    unfold tokL
    simp only
    rw [if_pos hb, hw]

theorem isNm_parts {kw : Bs → Bool} {s : Bs} (h : isNm kw s = true) : (∃ b r, s = b :: r ∧ isLet b = true) ∧ s.length ≤ 20 ∧ (∀ b ∈ s, isWord b = true) ∧ (∀ b ∈ s, ¬ (65 ≤ b.toNat ∧ b.toNat ≤ 90)) ∧ kw (s.map up) = false := by
  unfold isNm at h
  simp only [Bool.and_eq_true, Bool.not_eq_true', decide_eq_true_eq, List.all_eq_true] at h
  obtain ⟨⟨⟨⟨h1, h2⟩, h3⟩, h4⟩, h5⟩ := h
  refine ⟨?_, h2, fun b hb => (h4 b hb).1, fun b hb hc => ?_, h5⟩
  · cases s with
    | nil => simp at h1
    | cons b r => exact ⟨b, r, rfl, by simpa using h3⟩
  · have := (h4 b hb).2
    simp at this
    omega

/-- A token as it is written, something that can stand behind it at its end. -/
theorem tok_written {kw : Bs → Bool} {marks : List Bs} (hk : KwOk kw) (hmk : ∀ t ∈ marks, ∀ R, Sep (5, t) R → skipC false (t ++ R) = 0 ∧ tokL kw marks (t ++ R) = .good 5 t t.length)
    (x : Int × Bs) (hx : tokOk kw marks x = true) (R : Bs) (hS : Sep x R) :
    skipC false (written x ++ R) = 0 ∧ tokL kw marks (written x ++ R) = .good x.1 x.2 (written x).length := by
  obtain ⟨kd, t⟩ := x
  unfold tokOk at hx
  simp only [Bool.or_eq_true, Bool.and_eq_true, decide_eq_true_eq] at hx
  rcases hx with (((⟨rfl, h⟩ | ⟨rfl, h⟩) | ⟨rfl, h⟩) | ⟨rfl, h⟩) | ⟨rfl, h⟩
  · have hs := sep_word hS (by simp)
    obtain ⟨hne, hu⟩ := hk.upper t h
    have hl : ∀ b ∈ t, isLet b = true := fun b hb => by have := hu b hb; unfold isLet; simp; omega
    have hm : t.map up = t := map_id_of t fun b hb => up_of_upper (hu b hb)
    unfold written
    simp only
    rw [if_neg (by decide)]
    cases ht : t with
    | nil => exact absurd ht hne
    | cons b r =>
      have := tok_word (kw := kw) (marks := marks) t R b r ht (hl b (by simp [ht])) (fun c hc => isLet_word (hl c hc)) hs.1
      rw [hm, if_pos h] at this
      rw [← ht]; exact this
  · have hs := sep_word hS (by simp)
    obtain ⟨⟨b, r, ht, hb⟩, h2, h3, h4, h5⟩ := isNm_parts h
    have := tok_word (kw := kw) (marks := marks) t R b r ht hb h3 hs.1
    rw [h5, if_neg (by decide), if_neg (by omega), map_id_of t fun b hb => low_of_lower (h4 b hb)] at this
    unfold written
    simp only
    rw [if_neg (by decide)]
    exact this
  · have hs := sep_word hS (by simp)
    simp only [Bool.not_eq_true', List.all_eq_true] at h
    obtain ⟨⟨⟨h1, h2⟩, h3⟩, h4⟩ := h
    unfold written
    simp only
    rw [if_neg (by decide)]
    cases t with
    | nil => simp at h1
    | cons b r =>
      have hb := h2 b (by simp)
      have hw := takeWhile_all (b :: r) R h2 hs.2.2.1
      have hnb := not_bl_dig hb
      refine ⟨by rw [List.cons_append]; exact skip_zero hnb.1 hnb.2.1, ?_⟩
      rw [List.cons_append] at hw ⊢
      unfold tokL
      simp only
      rw [if_neg (by simp [hnb.2.2]), if_pos hb, hw, if_neg (by omega)]
      rw [show (b :: (r ++ R)).drop (b :: r).length = R by simp, if_neg (by simp [hs.2.1])]
  · have hs := sep_word hS (by simp)
    unfold written
    simp only
    rw [if_pos trivial]
    refine ⟨by rw [List.cons_append]; exact skip_zero (by decide) (by decide), ?_⟩
    rw [List.cons_append, List.append_assoc]
    unfold tokL
    simp only
    rw [if_neg (by decide), if_neg (by decide), if_pos (by decide)]
    rw [show [39] ++ R = 39 :: R by rfl, quo_qt R hs.2.2.2 t]
    simp only
    rw [if_neg (by omega)]
    simp
  · have := hmk t (by simpa using h) R hS
    unfold written
    simp only
    rw [if_neg (by decide)]
    exact this

theorem written_ne {kw : Bs → Bool} {marks : List Bs} (hk : KwOk kw) (hm : ∀ t ∈ marks, t ≠ []) (x : Int × Bs) (hx : tokOk kw marks x = true) : written x ≠ [] := by
  obtain ⟨kd, t⟩ := x
  unfold tokOk at hx
  simp only [Bool.or_eq_true, Bool.and_eq_true, decide_eq_true_eq] at hx
  unfold written
  rcases hx with (((⟨rfl, h⟩ | ⟨rfl, h⟩) | ⟨rfl, h⟩) | ⟨rfl, h⟩) | ⟨rfl, h⟩
  · exact (hk.upper t h).1
  · obtain ⟨⟨b, r, ht, hb⟩, _⟩ := isNm_parts h
    simp [ht]
  · simp at h ⊢; exact h.1.1.1
  · simp
  · exact hm t (by simpa using h)

theorem near_head {a x : Int × Bs} {Q : Bs} (h : near a x = true) : (a.1 = 5 ∧ (a.2 = [40] ∨ a.2 = [46])) ∨ ∃ c r, written x ++ Q = c :: r ∧ (c = 32 ∨ c = 44 ∨ c = 41 ∨ c = 46 ∨ c = 59) := by
  unfold near at h
  simp only [Bool.or_eq_true, Bool.and_eq_true, decide_eq_true_eq] at h
  rcases h with h | ⟨h1, h2⟩
  · exact .inl h
  · refine .inr ?_
    unfold written
    rw [h1, if_neg (by decide)]
    rcases h2 with ((h | h) | h) | h <;> rw [h] <;> exact ⟨_, _, rfl, by decide⟩

theorem join_sep {a : Int × Bs} {r : List (Int × Bs)} : Sep a (joinF (some a) r) := by
  cases r with
  | nil => exact .inl rfl
  | cons x r =>
    unfold joinF
    by_cases h : near a x = true
    · rw [if_pos h]
      exact .inr (near_head h)
    · rw [if_neg h]
      exact .inr (.inr ⟨32, _, rfl, .inl rfl⟩)

/-- The tokens of what is joined are those that were joined. -/
theorem toks_join {kw : Bs → Bool} {marks : List Bs} (hk : KwOk kw) (hm : ∀ t ∈ marks, t ≠ []) (hmk : ∀ t ∈ marks, ∀ R, Sep (5, t) R → skipC false (t ++ R) = 0 ∧ tokL kw marks (t ++ R) = .good 5 t t.length) :
    ∀ (l : List (Int × Bs)) (a : Option (Int × Bs)) (k p : Nat), (∀ x ∈ l, tokOk kw marks x = true) → (joinF a l).length < k →
      ∃ ts, toks kw marks k p (joinF a l) = .good ts ∧ ts.map (fun x => (x.1, x.2.1)) = l
  | [], a, k, p, _, h => by
    cases k with
    | zero => omega
    | succ k => exact ⟨[], by cases a <;> simp [joinF, toks], rfl⟩
  | x :: l, a, k, p, hall, h => by
    obtain ⟨k, rfl⟩ : ∃ m, k = m + 1 := ⟨k - 1, by omega⟩
    obtain ⟨f, hf1, hf2⟩ : ∃ f : Bs, joinF a (x :: l) = f ++ (written x ++ joinF (some x) l) ∧ (f = [] ∨ f = [32]) := by
      cases a with
      | none => exact ⟨[], rfl, .inl rfl⟩
      | some a =>
        rw [joinF]
        by_cases hn : near a x = true
        · rw [if_pos hn]; exact ⟨[], rfl, .inl rfl⟩
        · rw [if_neg hn]; exact ⟨[32], rfl, .inr rfl⟩
    obtain ⟨h1, h2⟩ := tok_written hk hmk x (hall x (by simp)) (joinF (some x) l) join_sep
    have hne := written_ne hk hm x (hall x (by simp))
    have hs : skipC false (joinF a (x :: l)) = f.length := by
      rw [hf1, skip_blanks _ f (by rcases hf2 with rfl | rfl <;> decide), h1]; rfl
    have hd : (joinF a (x :: l)).drop f.length = written x ++ joinF (some x) l := by rw [hf1]; simp
    have hlen : (joinF (some x) l).length < k := by
      rw [hf1] at h
      have := List.length_pos_iff.2 hne
      simp at h; omega
    obtain ⟨ts, ht1, ht2⟩ := toks_join hk hm hmk l (some x) k (p + f.length + (written x).length) (fun y hy => hall y (by simp [hy])) hlen
    refine ⟨(x.1, x.2, p + f.length) :: ts, ?_, by simp [ht2]⟩
    unfold toks
    rw [hs, hd]
    cases hw : written x ++ joinF (some x) l with
    | nil => simp at hw; exact absurd hw.1 hne
    | cons b r =>
      simp only
      rw [← hw, h2]
      simp only
      rw [show (written x ++ joinF (some x) l).drop (written x).length = joinF (some x) l by simp, ht1]
      rfl

theorem tok_name {kw : Bs → Bool} {marks : List Bs} (s : Bs) (h : isNm kw s = true) (k : Nat) : toks kw marks (k + 2) 0 s = .good [(2, s, 0)] := by
  obtain ⟨⟨b, r, ht, hb⟩, h2, h3, h4, h5⟩ := isNm_parts h
  have := tok_word (kw := kw) (marks := marks) s [] b r ht hb h3 rfl
  rw [h5, if_neg (by decide), if_neg (by omega), map_id_of s fun b hb => low_of_lower (h4 b hb), List.append_nil] at this
  rw [toks, this.1, ht]
  simp only [List.drop_zero]
  rw [← ht, this.2]
  simp [toks, Tks.cons]

theorem toks_text {kw : Bs → Bool} {marks : List Bs} (s : Bs) (k : Nat) : toks kw marks (k + 2) 0 (39 :: (qt s ++ [39])) = if 100 < s.length then .bad 0 5 else .good [(4, s, 0)] := by
  rw [toks, skip_zero (by decide) (by decide)]
  simp only [List.drop_zero]
  unfold tokL
  simp only
  rw [if_neg (by decide), if_neg (by decide), if_pos (by decide), quo_qt [] (by simp) s]
  simp only
  by_cases h : 100 < s.length
  · rw [if_pos h, if_pos h]
  · rw [if_neg h, if_neg h]
    simp [toks, Tks.cons]
end Go.Proofs.YtaibkpbiccibjaaGreatDoor.Lx
