/- The order of values: what the program's and the reference's comparisons come to; it is a total order. ValueCompares and ValueOrders without Go and memory. -/
import Derived.Test.YtafdoogghalpjaaGreatDoorVFa
import Derived.Test.YtafdoogghalpjaaGreatDoorVPInt
import Derived.Lib.Bytealg
set_option linter.unusedVariables false
namespace Go.Proofs.YtafdoogghalpjaaGreatDoor.PAll
open Go.RowKit Go.Proofs.YtafdoogghalpjaaGreatDoorW.PrintWords Go.Proofs.YtafdoogghalpjaaGreatDoorW.PrintLast Go.Proofs.YtafdoogghalpjaaGreatDoorW.PrintMore

theorem bt_list (s : ByteArray) (i : Nat) (h : i < s.data.toList.length) : bt s (i : Int) = ((s.data.toList[i]).toNat : Int) := by
  have h' : i < s.size := by simpa using h
  have := bt_at s (i : Int) (by simpa using h')
  rw [← this]
  rfl
theorem wrap_step {i n : Nat} (h : i < n) (hn : n ≤ 9223372036854775807) : wrap64 ((i : Int) + 1) = ((i + 1 : Nat) : Int) := by
  unfold wrap64; omega

theorem texts_l0 (x0 x1 : ByteArray) (h0 : x0.size ≤ 9223372036854775807) : ∀ (d i k : Nat), x0.size - i = d → i ≤ x0.size → i ≤ x1.size → 2 * d + 2 ≤ k →
    jointerref01_texts.l0 k x0 x1 (i : Int) = some (Lib.compareBytes (x0.data.toList.drop i) (x1.data.toList.drop i)) := by
  intro d
  induction d with
  | zero =>
    intro i k hd hi0 hi1 hk
    obtain ⟨k, rfl⟩ : ∃ m, k = m + 2 := ⟨k - 2, by omega⟩
    simp only [jointerref01_texts.l0]
    have e0 : x0.data.toList.drop i = [] := List.drop_of_length_le (by simp; omega)
    rw [if_neg (by omega), e0]
    simp only [jointerref01_texts.j1]
    rw [if_neg (by decide)]
    by_cases h : i < x1.size
    · have e1 : x1.data.toList.drop i = x1.data.toList[i]'(by simpa using h) :: x1.data.toList.drop (i + 1) := List.drop_eq_getElem_cons (by simpa using h)
      rw [if_pos (by omega), e1]; rfl
    · have e1 : x1.data.toList.drop i = [] := List.drop_of_length_le (by simp; omega)
      rw [if_neg (by omega), if_neg (by omega), e1]; rfl
  | succ d ih =>
    intro i k hd hi0 hi1 hk
    obtain ⟨k, rfl⟩ : ∃ m, k = m + 2 := ⟨k - 2, by omega⟩
    have hl0 : i < x0.size := by omega
    simp only [jointerref01_texts.l0]
    rw [if_pos (by omega)]
    simp only [jointerref01_texts.j1]
    have e0 : x0.data.toList.drop i = x0.data.toList[i]'(by simpa using hl0) :: x0.data.toList.drop (i + 1) := List.drop_eq_getElem_cons (by simpa using hl0)
    by_cases h : i < x1.size
    · have e1 : x1.data.toList.drop i = x1.data.toList[i]'(by simpa using h) :: x1.data.toList.drop (i + 1) := List.drop_eq_getElem_cons (by simpa using h)
      rw [if_pos (decide_eq_true (by omega)), if_pos (by omega), if_pos (by omega), if_pos (by omega), bt_list x0 i (by simpa using hl0), bt_list x1 i (by simpa using h), e0, e1]
      simp only [Lib.compareBytes, UInt8.lt_iff_toNat_lt]
      have hn := ih (i + 1) k (by omega) (by omega) (by omega) (by omega)
      rw [wrap_step hl0 h0, hn]
      generalize x0.data.toList[i]'(by simpa using hl0) = a
      generalize x1.data.toList[i]'(by simpa using h) = b
      by_cases hab : a.toNat < b.toNat
      · rw [if_pos (by omega), if_pos hab]
      · rw [if_neg (by omega), if_neg hab]
        by_cases hba : b.toNat < a.toNat
        · rw [if_pos (by omega), if_pos hba]
        · rw [if_neg (by omega), if_neg hba]
    · have e1 : x1.data.toList.drop i = [] := List.drop_of_length_le (by simp; omega)
      rw [if_neg (by simp; omega), e1, e0]
      rw [if_neg (by omega), if_pos (by omega)]; rfl
theorem texts_is (k : Nat) (x0 x1 : ByteArray) (h0 : x0.size ≤ 9223372036854775807) (hk : 2 * x0.size + 2 ≤ k) : jointerref01_texts.f k x0 x1 = some (Lib.compareBytes x0.data.toList x1.data.toList) := by
  unfold jointerref01_texts.f
  have := texts_l0 x0 x1 h0 x0.size 0 k (by omega) (by omega) (by omega) hk
  simpa using this

def cmpI (a b : Int) : Int := if a < b then -1 else if a > b then 1 else 0
def vcmp (k1 n1 : Int) (s1 : List UInt8) (k2 n2 : Int) (s2 : List UInt8) : Int :=
  if k1 = k2 then (if k1 = 0 then 0 else if k1 = 1 ∨ k1 = 3 then cmpI n1 n2 else if k1 = 2 then Lib.compareBytes s1 s2 else (if cmpI n1 n2 = 0 then Lib.compareBytes s1 s2 else cmpI n1 n2)) else cmpI k1 k2
theorem ints_is (a b : Int) : jointerref01_ints.f a b = some (cmpI a b) := by
  unfold jointerref01_ints.f cmpI; split; rfl; split <;> rfl
theorem cint_is (a b : Int) : cmp_Compare_int64.f a b = some (cmpI a b) := by
  unfold cmp_Compare_int64.f cmp_isNaN_int64.f cmpI
  simp only [Option.bind_some, bne_self_eq_false]
  rw [if_neg (by decide), if_neg (by decide)]; split; rfl; split <;> rfl
theorem ckind_is (a b : Int) : api_Kind_38.f a b = some (cmpI a b) := by
  unfold api_Kind_38.f api_Kind_65.f cmpI
  simp only [Option.bind_some, bne_self_eq_false]
  rw [if_neg (by decide), if_neg (by decide)]; split; rfl; split <;> rfl
theorem or_is (k : Nat) (a b : Int) : cmp_Or_int.f (k + 3) [a, b] = some (if a = 0 then b else a) := by
  unfold cmp_Or_int.f
  simp only [cmp_Or_int.l0]
  have r0 : rd [a, b] 0 = a := rfl
  have r1 : rd [a, b] 1 = b := rfl
  rw [if_pos (by simp), if_pos (by omega), if_pos (by simp), r0]
  by_cases h : a = 0
  · rw [if_pos h, if_pos h, show wrap64 (0 + 1) = 1 by unfold wrap64; omega, if_pos (by simp), if_pos (by omega), if_pos (by simp), r1]
    by_cases h2 : b = 0
    · rw [if_pos h2, show wrap64 (1 + 1) = 2 by unfold wrap64; omega, if_neg (by simp), h2]
    · rw [if_neg h2]
  · rw [if_neg h, if_neg h]
theorem cmpI_zero {a b : Int} : cmpI a b = 0 ↔ a = b := by unfold cmpI; split; constructor <;> omega; split <;> constructor <;> omega
theorem compare_is (k : Nat) (k1 n1 : Int) (s1 : ByteArray) (k2 n2 : Int) (s2 : ByteArray) : value_Compare.f (k + 4) k1 n1 s1 k2 n2 s2 = some (vcmp k1 n1 s1.data.toList k2 n2 s2.data.toList) := by
  unfold value_Compare.f vcmp
  rw [ckind_is]
  simp only [Option.bind_some]
  by_cases h : k1 = k2
  · rw [if_pos (cmpI_zero.mpr h), if_pos h]
    by_cases h0 : k1 = 0
    · rw [if_pos h0, if_pos h0]
    · rw [if_neg h0, if_neg h0]
      have e : ∀ b : Bool, value_Compare.j0 (k + 4) k1 b k1 n1 s1 k2 n2 s2 = some (if b = true then cmpI n1 n2 else if k1 = 2 then Lib.compareBytes s1.data.toList s2.data.toList else (if cmpI n1 n2 = 0 then Lib.compareBytes s1.data.toList s2.data.toList else cmpI n1 n2)) := by
        intro b
        simp only [value_Compare.j0]
        cases b with
        | true => rw [if_pos rfl, if_pos rfl, cint_is]; rfl
        | false =>
          simp only [Bool.false_eq_true, if_false]
          by_cases h2 : k1 = 2
          · rw [if_pos h2, if_pos h2]; rfl
          · rw [if_neg h2, if_neg h2, cint_is]
            unfold strings_Compare.f
            simp only [Option.bind_some]
            rw [or_is]; rfl
      by_cases h1 : k1 = 1
      · rw [if_pos h1, e, if_pos (Or.inl h1), if_pos (beq_iff_eq.mpr h1)]
      · rw [if_neg h1, e]
        by_cases h3 : k1 = 3
        · rw [if_pos (beq_iff_eq.mpr h3), if_pos (Or.inr h3)]
        · rw [if_neg (show ¬((k1 == 3) = true) by simpa using h3), if_neg (show ¬(k1 = 1 ∨ k1 = 3) by omega)]
  · rw [if_neg (fun e => h (cmpI_zero.mp e)), if_neg h]
theorem rcompare_is (k : Nat) (k1 n1 : Int) (s1 : ByteArray) (k2 n2 : Int) (s2 : ByteArray) (hk1 : 0 ≤ k1 ∧ k1 ≤ 255) (hk2 : 0 ≤ k2 ∧ k2 ≤ 255) (hs : s1.size ≤ 9223372036854775807) (hk : 2 * s1.size + 2 ≤ k) :
    jointerref01_Compare.f (k + 1) k1 n1 s1 k2 n2 s2 = some (vcmp k1 n1 s1.data.toList k2 n2 s2.data.toList) := by
  unfold jointerref01_Compare.f vcmp
  by_cases h : k1 = k2
  · rw [if_pos h, if_pos h]
    by_cases h0 : k1 = 0
    · rw [if_pos h0, if_pos h0]
    · rw [if_neg h0, if_neg h0]
      have e : ∀ b : Bool, jointerref01_Compare.j0 (k + 1) k1 b k1 n1 s1 k2 n2 s2 = some (if b = true then cmpI n1 n2 else if k1 = 2 then Lib.compareBytes s1.data.toList s2.data.toList else (if cmpI n1 n2 = 0 then Lib.compareBytes s1.data.toList s2.data.toList else cmpI n1 n2)) := by
        intro b
        simp only [jointerref01_Compare.j0]
        cases b with
        | true => rw [if_pos rfl, if_pos rfl, ints_is]; rfl
        | false =>
          simp only [Bool.false_eq_true, if_false]
          by_cases h2 : k1 = 2
          · rw [if_pos h2, if_pos h2, texts_is k s1 s2 hs hk]; rfl
          · rw [if_neg h2, if_neg h2, ints_is]
            simp only [Option.bind_some]
            by_cases h4 : cmpI n1 n2 = 0
            · rw [if_pos h4, if_pos h4, texts_is k s1 s2 hs hk]; rfl
            · rw [if_neg h4, if_neg h4]
      by_cases h1 : k1 = 1
      · rw [if_pos h1, e, if_pos (Or.inl h1), if_pos (beq_iff_eq.mpr h1)]
      · rw [if_neg h1, e]
        by_cases h3 : k1 = 3
        · rw [if_pos (beq_iff_eq.mpr h3), if_pos (Or.inr h3)]
        · rw [if_neg (show ¬((k1 == 3) = true) by simpa using h3), if_neg (show ¬(k1 = 1 ∨ k1 = 3) by omega)]
  · rw [if_neg h, if_neg h, ints_is, wrap64_same (by unfold i64ok; omega), wrap64_same (by unfold i64ok; omega)]; rfl

theorem cmpI_neg (a b : Int) : cmpI a b = -cmpI b a := by unfold cmpI; (repeat' split) <;> omega
theorem cmpI_le {a b : Int} : cmpI a b ≤ 0 ↔ a ≤ b := by unfold cmpI; split; constructor <;> omega; split <;> constructor <;> omega
theorem cmpI_lt {a b : Int} : cmpI a b < 0 ↔ a < b := by unfold cmpI; split; constructor <;> omega; split <;> constructor <;> omega
theorem cmpI_range (a b : Int) : cmpI a b = -1 ∨ cmpI a b = 0 ∨ cmpI a b = 1 := by unfold cmpI; (repeat' split) <;> omega
theorem cB_range : ∀ a b : List UInt8, Lib.compareBytes a b = -1 ∨ Lib.compareBytes a b = 0 ∨ Lib.compareBytes a b = 1
  | [], [] => Or.inr (Or.inl rfl)
  | [], _ :: _ => Or.inl rfl
  | _ :: _, [] => Or.inr (Or.inr rfl)
  | x :: a, y :: b => by
    have := cB_range a b
    simp only [Lib.compareBytes]; split; exact Or.inl rfl; split; exact Or.inr (Or.inr rfl); exact this
theorem cB_neg : ∀ a b : List UInt8, Lib.compareBytes a b = -Lib.compareBytes b a
  | [], [] => rfl
  | [], _ :: _ => rfl
  | _ :: _, [] => rfl
  | x :: a, y :: b => by
    have := cB_neg a b
    simp only [Lib.compareBytes, UInt8.lt_iff_toNat_lt]
    (repeat' split) <;> omega
theorem cB_zero : ∀ {a b : List UInt8}, Lib.compareBytes a b = 0 ↔ a = b
  | [], [] => ⟨fun _ => rfl, fun _ => rfl⟩
  | [], _ :: _ => ⟨fun h => absurd h (by simp [Lib.compareBytes]), fun h => by cases h⟩
  | _ :: _, [] => ⟨fun h => absurd h (by simp [Lib.compareBytes]), fun h => by cases h⟩
  | x :: a, y :: b => by
    have ih := @cB_zero a b
    simp only [Lib.compareBytes, UInt8.lt_iff_toNat_lt, List.cons.injEq]
    have e : x = y ↔ x.toNat = y.toNat := ⟨fun h => by rw [h], fun h => UInt8.toNat_inj.mp h⟩
    rw [e]
    split
    · constructor <;> intro h <;> omega
    · split
      · constructor <;> intro h <;> omega
      · rw [ih]; constructor
        · intro h; exact ⟨by omega, h⟩
        · intro h; exact h.2
theorem cB_trans : ∀ {a b c : List UInt8}, Lib.compareBytes a b ≤ 0 → Lib.compareBytes b c ≤ 0 → Lib.compareBytes a c ≤ 0
  | [], _, [], _, _ => by simp [Lib.compareBytes]
  | [], _, _ :: _, _, _ => by simp [Lib.compareBytes]
  | _ :: _, [], _, h, _ => by simp [Lib.compareBytes] at h
  | _ :: _, _ :: _, [], _, h => by simp [Lib.compareBytes] at h
  | x :: a, y :: b, z :: c, h1, h2 => by
    have ih := @cB_trans a b c
    simp only [Lib.compareBytes, UInt8.lt_iff_toNat_lt] at h1 h2 ⊢
    split at h1 <;> split at h2 <;> (repeat' split) <;> first | omega | (simp_all; omega) | skip
    all_goals (repeat' split at h1) <;> (repeat' split at h2) <;> first | omega | (exact ih (by omega) (by omega))

theorem vcmp_self (k n : Int) (s : List UInt8) : vcmp k n s k n s = 0 := by
  have h1 : cmpI n n = 0 := cmpI_zero.mpr rfl
  have h2 : Lib.compareBytes s s = 0 := cB_zero.mpr rfl
  unfold vcmp
  rw [if_pos rfl, h1, h2]; simp
theorem vcmp_neg (k1 n1 : Int) (s1 : List UInt8) (k2 n2 : Int) (s2 : List UInt8) : vcmp k1 n1 s1 k2 n2 s2 = -vcmp k2 n2 s2 k1 n1 s1 := by
  unfold vcmp
  by_cases h : k1 = k2
  · subst h
    rw [if_pos rfl, if_pos rfl]
    have h1 := cmpI_neg n1 n2
    have h2 := cB_neg s1 s2
    (repeat' split) <;> omega
  · rw [if_neg h, if_neg (fun e => h e.symm)]; exact cmpI_neg _ _
theorem vcmp_range (k1 n1 : Int) (s1 : List UInt8) (k2 n2 : Int) (s2 : List UInt8) : -1 ≤ vcmp k1 n1 s1 k2 n2 s2 ∧ vcmp k1 n1 s1 k2 n2 s2 ≤ 1 := by
  have h1 := cmpI_range n1 n2
  have h2 := cB_range s1 s2
  have h3 := cmpI_range k1 k2
  unfold vcmp
  (repeat' split) <;> omega
theorem vcmp_trans {k1 n1 : Int} {s1 : List UInt8} {k2 n2 : Int} {s2 : List UInt8} {k3 n3 : Int} {s3 : List UInt8}
    (h1 : vcmp k1 n1 s1 k2 n2 s2 ≤ 0) (h2 : vcmp k2 n2 s2 k3 n3 s3 ≤ 0) : vcmp k1 n1 s1 k3 n3 s3 ≤ 0 := by
  have hb := @cB_trans s1 s2 s3
  unfold vcmp at h1 h2 ⊢
  by_cases e1 : k1 = k2
  · subst e1
    by_cases e2 : k1 = k3
    · subst e2
      rw [if_pos rfl] at h1 h2 ⊢
      by_cases c0 : k1 = 0
      · rw [if_pos c0]; omega
      · rw [if_neg c0] at h1 h2 ⊢
        by_cases c1 : k1 = 1 ∨ k1 = 3
        · rw [if_pos c1] at h1 h2 ⊢
          rw [cmpI_le] at h1 h2 ⊢; omega
        · rw [if_neg c1] at h1 h2 ⊢
          by_cases c2 : k1 = 2
          · rw [if_pos c2] at h1 h2 ⊢; exact hb h1 h2
          · rw [if_neg c2] at h1 h2 ⊢
            have a1 := @cmpI_zero n1 n2; have a2 := @cmpI_zero n2 n3; have a3 := @cmpI_zero n1 n3
            have b1 := @cmpI_le n1 n2; have b2 := @cmpI_le n2 n3; have b3 := @cmpI_le n1 n3
            split at h1
            · split at h2
              · rw [if_pos (by omega)]; exact hb h1 h2
              · rw [if_neg (by omega)]; omega
            · split at h2
              · rw [if_neg (by omega)]; omega
              · split
                · omega
                · omega
    · rw [if_neg e2] at h2 ⊢; exact h2
  · rw [if_neg e1] at h1
    by_cases e2 : k2 = k3
    · subst e2; rw [if_neg e1]; exact h1
    · rw [if_neg e2] at h2
      rw [cmpI_le] at h1 h2
      by_cases e3 : k1 = k3
      · omega
      · rw [if_neg e3, cmpI_le]; omega
end Go.Proofs.YtafdoogghalpjaaGreatDoor.PAll
