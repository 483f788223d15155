/- Numbers as texts, without Go and memory: which texts are numbers, what number they are, the decimal numeral and back. -/
import Derived.Test.YtafdoogghalpjaaGreatDoorVPQuote
import Derived.Test.YtafdoogghalpjaaGreatDoorVPInt
import Derived.Lib.ParseIntBCases
import Derived.Lib.ItoaMem
set_option linter.unusedVariables false
namespace Go.Proofs.YtafdoogghalpjaaGreatDoor.PAll
open Go.RowKit Go.Proofs.YtafdoogghalpjaaGreatDoorW.PrintWords Go.Proofs.YtafdoogghalpjaaGreatDoorW.PrintLast Go.Proofs.YtafdoogghalpjaaGreatDoorW.PrintMore

def dg (c : UInt8) : Bool := decide (48 ≤ c.toNat) && decide (c.toNat ≤ 57)
theorem dg_iff (c : UInt8) : dg c = true ↔ 48 ≤ c.toNat ∧ c.toNat ≤ 57 := by simp [dg]
def stp (a : Nat) (c : UInt8) : Nat := a * 10 + (c.toNat - 48)
def val (acc : Nat) (l : List UInt8) : Nat := l.foldl stp acc
theorem val_nil (acc : Nat) : val acc [] = acc := by unfold val; rw [List.foldl_nil]
theorem val_cons (acc : Nat) (c : UInt8) (r : List UInt8) : val acc (c :: r) = val (acc * 10 + (c.toNat - 48)) r := by
  unfold val
  rw [List.foldl_cons, stp]
theorem pm_nil (M acc : Nat) : Lib.parseUintM M acc [] = .ok acc := rfl
theorem pm_cons (M acc : Nat) (c : UInt8) (r : List UInt8) : Lib.parseUintM M acc (c :: r) = if 48 ≤ c.toNat ∧ c.toNat ≤ 57 then (if 1844674407370955162 ≤ acc then .range else if M < acc * 10 + (c.toNat - 48) then .range else Lib.parseUintM M (acc * 10 + (c.toNat - 48)) r) else .syntax := by
  rw [Lib.parseUintM]
theorem val_ge : ∀ (r : List UInt8) (acc : Nat), acc ≤ val acc r
  | [], acc => by rw [val_nil]; exact Nat.le_refl _
  | c :: r, acc => by
    have := val_ge r (acc * 10 + (c.toNat - 48))
    rw [val_cons]; omega
theorem val_snoc : ∀ (r : List UInt8) (acc : Nat) (c : UInt8), val acc (r ++ [c]) = val acc r * 10 + (c.toNat - 48)
  | [], acc, c => by rw [List.nil_append, val_cons, val_nil, val_nil]
  | d :: r, acc, c => by rw [List.cons_append, val_cons, val_cons]; exact val_snoc r _ c
theorem parseM : ∀ (r : List UInt8) (acc : Nat), (∀ c ∈ r, dg c = true) → acc ≤ 18446744073709551615 →
    Lib.parseUintM 18446744073709551615 acc r = if val acc r ≤ 18446744073709551615 then .ok (val acc r) else .range
  | [], acc, _, h => by rw [val_nil, pm_nil, if_pos h]
  | c :: r, acc, hd, h => by
    have hc := (dg_iff c).1 (hd c (by simp))
    have hv := val_ge r (acc * 10 + (c.toNat - 48))
    rw [pm_cons, val_cons, if_pos hc]
    by_cases h1 : 1844674407370955162 ≤ acc
    · rw [if_pos h1, if_neg (by omega)]
    · rw [if_neg h1]
      by_cases h2 : 18446744073709551615 < acc * 10 + (c.toNat - 48)
      · rw [if_pos h2, if_neg (by omega)]
      · rw [if_neg h2]
        exact parseM r _ (fun x hx => hd x (by simp [hx])) (by omega)
def dgs (l : List UInt8) : List UInt8 := if l.head? = some 45 then l.tail else l
theorem dgs_trim (l : List UInt8) : Lib.trimPrefix l [45] = dgs l := by
  cases l with
  | nil => rfl
  | cons c r =>
    by_cases h : c = 45
    · subst h; simp [dgs, Lib.trimPrefix, Lib.hasPrefix]
    · have h' : ¬ (45 : UInt8) = c := fun e => h e.symm
      simp [dgs, Lib.trimPrefix, Lib.hasPrefix, h, h']
def sgn (l : List UInt8) : Int := if l.head? = some 45 then -1 else 1
theorem sgn_or (l : List UInt8) : sgn l = 1 ∨ sgn l = -1 := by unfold sgn; split <;> simp
def numV (l : List UInt8) : Int := sgn l * (val 0 (dgs l) : Int)
theorem parse_is (l : List UInt8) (h : dgs l ≠ []) (hd : ∀ c ∈ dgs l, dg c = true) : Lib.parseIntB 64 l = if i64ok (numV l) then .ok (numV l) else .range := by
  have hp : Lib.parseUintB 64 (dgs l) = if val 0 (dgs l) ≤ 18446744073709551615 then .ok (val 0 (dgs l)) else .range := by
    unfold Lib.parseUintB
    rw [if_neg h]
    exact parseM _ 0 hd (by decide)
  cases l with
  | nil => exact absurd rfl h
  | cons c r =>
    by_cases hc : c = 45
    · subst hc
      have e1 : dgs (45 :: r) = r := by simp [dgs]
      have e2 : numV (45 :: r) = -(val 0 r : Int) := by simp [numV, sgn, dgs]
      rw [e1] at hp
      rw [Lib.parseIntB_minus, hp, e2]
      by_cases h1 : val 0 r ≤ 18446744073709551615
      · rw [if_pos h1]
        show (if 2 ^ (64 - 1) < val 0 r then Lib.NumEnd.range else Lib.NumEnd.ok (-(val 0 r : Int))) = _
        by_cases h2 : 2 ^ (64 - 1) < val 0 r
        · rw [if_pos h2, if_neg (by unfold i64ok; omega)]
        · rw [if_neg h2, if_pos (by unfold i64ok; omega)]
      · rw [if_neg h1, if_neg (by unfold i64ok; omega)]
        rfl
    · have e1 : dgs (c :: r) = c :: r := by simp [dgs, hc]
      have e2 : numV (c :: r) = (val 0 (c :: r) : Int) := by simp [numV, sgn, dgs, hc]
      rw [e1] at hp hd
      have hc1 := (dg_iff c).1 (hd c (by simp))
      rw [Lib.parseIntB_plain 64 c r (by omega) (by omega), hp, e2]
      generalize val 0 (c :: r) = u
      by_cases h1 : u ≤ 18446744073709551615
      · rw [if_pos h1]
        show (if 2 ^ (64 - 1) ≤ u then Lib.NumEnd.range else Lib.NumEnd.ok (u : Int)) = _
        by_cases h2 : 2 ^ (64 - 1) ≤ u
        · rw [if_pos h2, if_neg (by unfold i64ok; omega)]
        · rw [if_neg h2, if_pos (by unfold i64ok; omega)]
      · rw [if_neg h1, if_neg (by unfold i64ok; omega)]
        rfl
/-! ### The numeral -/
theorem dec_all : ∀ (n u : Nat), u ≤ n → (∀ c ∈ Lib.decDigits u, dg c = true) ∧ val 0 (Lib.decDigits u) = u ∧ Lib.decDigits u ≠ [] ∧ ((Lib.decDigits u).head? = some 48 → u = 0)
  | n, u, hn => by
    by_cases h : u < 10
    · rw [Lib.decDigits, dif_pos h]
      have e : (UInt8.ofNat (48 + u)).toNat = 48 + u := by rw [UInt8.toNat_ofNat']; omega
      refine ⟨fun c hc => ?_, ?_, by simp, fun hh => ?_⟩
      · rw [List.mem_singleton] at hc; subst hc; rw [dg_iff, e]; omega
      · rw [val_cons, val_nil, e]; omega
      · have := congrArg UInt8.toNat (Option.some.inj hh)
        rw [e] at this
        have e48 : (48 : UInt8).toNat = 48 := rfl
        omega
    · rw [Lib.decDigits, dif_neg h]
      have e : (UInt8.ofNat (48 + u % 10)).toNat = 48 + u % 10 := by rw [UInt8.toNat_ofNat']; omega
      cases n with
      | zero => omega
      | succ n =>
        obtain ⟨i1, i2, i3, i4⟩ := dec_all n (u / 10) (by omega)
        refine ⟨fun c hc => ?_, ?_, by simp, fun hh => ?_⟩
        · rcases List.mem_append.1 hc with hc | hc
          · exact i1 c hc
          · rw [List.mem_singleton] at hc; subst hc; rw [dg_iff, e]; omega
        · rw [val_snoc, i2, e]; omega
        · have : (Lib.decDigits (u / 10)).head? = some 48 := by
            cases hx : Lib.decDigits (u / 10) with
            | nil => exact absurd hx i3
            | cons a t => rw [hx] at hh; simpa using hh
          have := i4 this
          omega
/-- Digits without a leading zero are the numeral of their number. -/
theorem dec_back : ∀ (n : Nat) (d : List UInt8), d.length ≤ n → d ≠ [] → (∀ c ∈ d, dg c = true) → (d.head? = some 48 → d = [48]) → Lib.decDigits (val 0 d) = d ∧ (d.head? ≠ some 48 → 1 ≤ val 0 d)
  | 0, d, hn, h0, _, _ => absurd (List.length_eq_zero_iff.1 (by omega)) h0
  | n + 1, d, hn, h0, hd, hz => by
    obtain ⟨r, c, rfl⟩ : ∃ r c, d = r ++ [c] := ⟨d.dropLast, d.getLast h0, (List.dropLast_concat_getLast h0).symm⟩
    have hc := (dg_iff c).1 (hd c (by simp))
    have hcc : UInt8.ofNat (48 + (c.toNat - 48)) = c := by rw [show 48 + (c.toNat - 48) = c.toNat by omega]; exact UInt8.ofNat_toNat
    rw [val_snoc]
    cases r with
    | nil =>
      have e0 : val 0 [] = 0 := val_nil 0
      rw [e0, Nat.zero_mul, Nat.zero_add, Lib.decDigits, dif_pos (by omega), hcc]
      refine ⟨rfl, fun hh => ?_⟩
      have : c.toNat ≠ 48 := fun e => hh (by simp; exact UInt8.toNat_inj.mp e)
      omega
    | cons a t =>
      have ha : a ≠ 48 := fun e => by
        have := hz (by simp [e])
        simp at this
      obtain ⟨i1, i2⟩ := dec_back n (a :: t) (by simp at hn ⊢; omega) (by simp) (fun x hx => hd x (by simp at hx ⊢; rcases hx with h | h <;> simp [h])) (fun e => absurd (by simpa using e) ha)
      have i3 := i2 (by simpa using ha)
      rw [Lib.decDigits, dif_neg (by omega), show (val 0 (a :: t) * 10 + (c.toNat - 48)) / 10 = val 0 (a :: t) by omega, show (val 0 (a :: t) * 10 + (c.toNat - 48)) % 10 = c.toNat - 48 by omega, i1, hcc]
      exact ⟨rfl, fun _ => by omega⟩
/-- Which texts are numbers as they are printed. -/
def IsNum (l : List UInt8) : Prop := dgs l ≠ [] ∧ (∀ c ∈ dgs l, dg c = true) ∧ ¬ ((dgs l).head? = some 48 ∧ l ≠ [48])
theorem num_itoa (v : Int) : IsNum (Lib.itoa v) ∧ numV (Lib.itoa v) = v := by
  by_cases h : v < 0
  · obtain ⟨u, rfl, hu⟩ : ∃ u : Nat, v = -(u : Int) ∧ 1 ≤ u := ⟨v.natAbs, by omega, by omega⟩
    rw [Lib.itoa_neg u hu]
    obtain ⟨i1, i2, i3, i4⟩ := dec_all u u (Nat.le_refl _)
    have e1 : dgs (45 :: Lib.decDigits u) = Lib.decDigits u := by simp [dgs]
    refine ⟨⟨by rw [e1]; exact i3, by rw [e1]; exact i1, fun hh => ?_⟩, ?_⟩
    · rw [e1] at hh
      have := i4 hh.1
      omega
    · simp only [numV, e1, i2]; simp [sgn]
  · obtain ⟨u, rfl⟩ : ∃ u : Nat, v = (u : Int) := ⟨v.toNat, by omega⟩
    rw [Lib.itoa_nonneg u]
    obtain ⟨i1, i2, i3, i4⟩ := dec_all u u (Nat.le_refl _)
    have hh : (Lib.decDigits u).head? ≠ some 45 := fun e => by
      cases hx : Lib.decDigits u with
      | nil => rw [hx] at e; simp at e
      | cons a t =>
        rw [hx] at e i1
        have := (dg_iff a).1 (i1 a (by simp))
        have e' : a = 45 := by simpa using e
        subst e'
        have : (45 : UInt8).toNat = 45 := rfl
        omega
    have e1 : dgs (Lib.decDigits u) = Lib.decDigits u := by simp [dgs, hh]
    refine ⟨⟨by rw [e1]; exact i3, by rw [e1]; exact i1, fun hz => ?_⟩, ?_⟩
    · rw [e1] at hz
      have := i4 hz.1
      subst this
      exact hz.2 (by rw [Lib.decDigits, dif_pos (by omega)]; rfl)
    · simp only [numV, e1, i2]; simp [sgn, hh]
theorem itoa_num (l : List UInt8) (h : IsNum l) : Lib.itoa (numV l) = l := by
  obtain ⟨h1, h2, h3⟩ := h
  cases l with
  | nil => exact absurd rfl h1
  | cons c r =>
    by_cases hc : c = 45
    · subst hc
      have e1 : dgs (45 :: r) = r := by simp [dgs]
      rw [e1] at h1 h2 h3
      have hz : r.head? ≠ some 48 := fun e => h3 ⟨e, by simp⟩
      obtain ⟨i1, i2⟩ := dec_back r.length r (Nat.le_refl _) h1 h2 (fun e => absurd e hz)
      have e2 : numV (45 :: r) = -(val 0 r : Int) := by simp [numV, sgn, dgs]
      rw [e2, Lib.itoa_neg _ (i2 hz), i1]
    · have e1 : dgs (c :: r) = c :: r := by simp [dgs, hc]
      rw [e1] at h1 h2 h3
      have e2 : numV (c :: r) = (val 0 (c :: r) : Int) := by simp [numV, sgn, dgs, hc]
      rw [e2, Lib.itoa_nonneg]
      refine (dec_back _ (c :: r) (Nat.le_refl _) h1 h2 (fun e => ?_)).1
      exact Classical.byContradiction fun hn => h3 ⟨e, hn⟩
end Go.Proofs.YtafdoogghalpjaaGreatDoor.PAll
