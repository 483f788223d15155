/- The reference's table of prefixes finds the same matches as the definition. ValueMatches and ValueSplits without Go and memory. -/
import Derived.Test.YtafdoogghalpjaaGreatDoorVPMatch
import Derived.Test.YtafdoogghalpjaaGreatDoorVFd
import Derived.Test.YtafdoogghalpjaaGreatDoorVPOrd
import Derived.Test.YtafdoogghalpjaaGreatDoorVLMatches
import Derived.Test.YtafdoogghalpjaaGreatDoorVLSplits
set_option linter.unusedVariables false
namespace Go.Proofs.YtafdoogghalpjaaGreatDoor.PAll
open Go.RowKit Go.Proofs.YtafdoogghalpjaaGreatDoorW.PrintWords Go.Proofs.YtafdoogghalpjaaGreatDoorW.PrintLast Go.Proofs.YtafdoogghalpjaaGreatDoorW.PrintMore

theorem take_snoc {l : List UInt8} {i : Nat} (h : i < l.length) : l.take (i + 1) = l.take i ++ [l[i]] := List.take_succ_eq_append_getElem h

theorem M_snoc_pct (t : List UInt8) (x : UInt8) (p : List UInt8) : M (t ++ [x]) (p ++ [37]) ↔ M (t ++ [x]) p ∨ M t (p ++ [37]) := by
  have one : ∀ b : List UInt8, M b [37] := fun b => by rw [M_pct]; exact ⟨b.length, Nat.le_refl _, by simp [M]⟩
  rw [M_append, M_append]
  constructor
  · rintro ⟨a, b, e, h1, _⟩
    rcases List.eq_nil_or_concat b with rfl | ⟨b', y, rfl⟩
    · left; rw [List.append_nil] at e; rw [e]; exact h1
    · right
      rw [List.concat_eq_append, ← List.append_assoc] at e
      obtain ⟨e1, _⟩ := List.append_inj' e rfl
      exact ⟨a, b', e1, h1, one _⟩
  · rintro (h | ⟨a, b, rfl, h1, _⟩)
    · exact ⟨_, [], by simp, h, one _⟩
    · exact ⟨a, b ++ [x], by simp, h1, one _⟩
theorem M_snoc_one (t : List UInt8) (x : UInt8) (p : List UInt8) (c : UInt8) (hc : c ≠ 37) : M (t ++ [x]) (p ++ [c]) ↔ M t p ∧ (c = 95 ∨ c = x) := by
  rw [M_append]
  constructor
  · rintro ⟨a, b, e, h1, h2⟩
    rw [M_one _ _ _ hc] at h2
    obtain ⟨y, b', rfl, hy, hb⟩ := h2
    have hb : b' = [] := hb
    subst hb
    obtain ⟨e1, e2⟩ := List.append_inj' e rfl
    injection e2 with e2 _
    subst e1 e2
    exact ⟨h1, hy⟩
  · rintro ⟨h1, hx⟩
    exact ⟨t, [x], rfl, h1, (M_one _ _ _ hc).mpr ⟨x, [], rfl, hx, rfl⟩⟩
theorem M_nil_snoc (p : List UInt8) (c : UInt8) : M [] (p ++ [c]) ↔ M [] p ∧ c = 37 := by
  rw [M_nil, M_nil]
  constructor
  · intro h; exact ⟨fun d hd => h d (by simp [hd]), h c (by simp)⟩
  · rintro ⟨h1, rfl⟩ d hd
    rcases List.mem_append.mp hd with hd | hd
    · exact h1 d hd
    · simpa using hd

def Tb (xs : List Bool) (T P : List UInt8) (j : Nat) : Prop := ∀ q, q ≤ j → (xs.getD q false = true ↔ M T (P.take q))
theorem Tb.step {xs : List Bool} {T P : List UInt8} {j : Nat} {b : Bool} (h : Tb xs T P j) (hl : j + 1 < xs.length) (hb : b = true ↔ M T (P.take (j + 1))) : Tb (xs.set (j + 1) b) T P (j + 1) := by
  intro q hq
  rw [List.getD_eq_getElem?_getD, List.getElem?_set]
  by_cases e : j + 1 = q
  · subst e; rw [if_pos rfl, if_pos hl]; exact hb
  · rw [if_neg e, ← List.getD_eq_getElem?_getD]; exact h q (by omega)
theorem rdOf_nat (xs : List Bool) (q : Nat) : rdOf false xs (q : Int) = xs.getD q false := by unfold rdOf; rw [Int.toNat_natCast]

theorem dyn_l2 (x0 x1 : ByteArray) (h0 : x0.size ≤ 140737488351232) (h1 : x1.size ≤ 140737488351232) (i : Nat) (hi : i < x0.size) (x5 : List Bool) (h5 : x5.length = x1.size + 1) (hT : Tb x5 (x0.data.toList.take i) x1.data.toList x1.size)
    (K : Nat) (next : ∀ k xs, K ≤ k → xs.length = x1.size + 1 → Tb xs (x0.data.toList.take (i + 1)) x1.data.toList x1.size → ∃ b, jointerref01_Matches.l1 k x0 x1 xs ((i + 1 : Nat) : Int) = some b ∧ (b = true ↔ M x0.data.toList x1.data.toList)) :
    ∀ (d j k : Nat) (xs : List Bool), x1.size - j = d → j ≤ x1.size → xs.length = x1.size + 1 → Tb xs (x0.data.toList.take (i + 1)) x1.data.toList j → d + 1 + K ≤ k →
    ∃ b, jointerref01_Matches.l2 k x0 x1 x5 (i : Int) xs (j : Int) = some b ∧ (b = true ↔ M x0.data.toList x1.data.toList) := by
  intro d
  have hl0 : x0.data.toList.length = x0.size := by simp
  have hl1 : x1.data.toList.length = x1.size := by simp
  induction d with
  | zero =>
    intro j k xs hd hj hx hTx hk
    obtain ⟨k, rfl⟩ : ∃ m, k = m + 1 := ⟨k - 1, by omega⟩
    have : j = x1.size := by omega
    subst this
    simp only [jointerref01_Matches.l2]
    rw [if_neg (by omega), wrap_step hi (by omega)]
    exact next k xs (by omega) hx hTx
  | succ d ih =>
    intro j k xs hd hj hx hTx hk
    obtain ⟨k, rfl⟩ : ∃ m, k = m + 1 := ⟨k - 1, by omega⟩
    have hj' : j < x1.size := by omega
    have hP : j < x1.data.toList.length := by rw [hl1]; exact hj'
    have hI : i < x0.data.toList.length := by rw [hl0]; exact hi
    have go : ∀ b : Bool, (b = true ↔ M (x0.data.toList.take (i + 1)) (x1.data.toList.take (j + 1))) → ∃ r, jointerref01_Matches.l2 k x0 x1 x5 (i : Int) (xs.set (((j + 1 : Nat) : Int)).toNat b) ((j + 1 : Nat) : Int) = some r ∧ (r = true ↔ M x0.data.toList x1.data.toList) := by
      intro b hb
      rw [Int.toNat_natCast]
      exact ih (j + 1) k _ (by omega) (by omega) (by simpa using hx) (hTx.step (by omega) hb) (by omega)
    have eP := take_snoc hP
    have eT := take_snoc hI
    simp only [jointerref01_Matches.l2]
    rw [if_pos (by omega), if_pos (by omega), wrap_step hj' (by omega), bt_list x1 j hP]
    by_cases h37 : x1.data.toList[j] = 37
    · rw [if_pos ((u8_37 _).mpr h37), if_pos (by omega), rdOf_nat]
      by_cases hb : xs.getD j false = true
      · rw [if_pos hb, if_pos (by omega), if_pos (by omega)]
        apply go
        rw [eT, eP, h37, M_snoc_pct, ← eT]
        exact ⟨fun _ => Or.inl ((hTx j (Nat.le_refl _)).mp hb), fun _ => rfl⟩
      · rw [if_neg hb, if_pos (by omega), if_pos (by omega), if_pos (by omega), rdOf_nat]
        apply go
        rw [hT (j + 1) (by omega), eT, eP, h37, M_snoc_pct, ← eT]
        constructor
        · intro h; exact Or.inr h
        · rintro (h | h)
          · exact absurd ((hTx j (Nat.le_refl _)).mpr h) hb
          · exact h
    · rw [if_neg (fun e => h37 ((u8_37 _).mp e))]
      by_cases h95 : x1.data.toList[j] = 95
      · rw [if_pos ((u8_95 _).mpr h95), if_pos (by omega), if_pos (by omega), if_pos (by omega), rdOf_nat]
        apply go
        rw [hT j (by omega), eT, eP, M_snoc_one _ _ _ _ h37]
        exact ⟨fun h => ⟨h, Or.inl h95⟩, fun h => h.1⟩
      · rw [if_neg (fun e => h95 ((u8_95 _).mp e)), if_pos (by omega), rdOf_nat]
        by_cases hb : x5.getD j false = true
        · rw [if_pos hb, if_pos (by omega), if_pos (by omega), if_pos (by omega), if_pos (by omega), bt_list x0 i hI]
          apply go
          rw [eT, eP, M_snoc_one _ _ _ _ h37, beq_iff_eq, u8_eq]
          exact ⟨fun h => ⟨(hT j (by omega)).mp hb, Or.inr h⟩, fun h => h.2.resolve_left h95⟩
        · rw [if_neg hb, if_pos (by omega), if_pos (by omega)]
          apply go
          rw [eT, eP, M_snoc_one _ _ _ _ h37]
          exact ⟨(fun h => by cases h), fun h => absurd ((hT j (by omega)).mpr h.1) hb⟩

theorem wrap_one (x1 : ByteArray) (h1 : x1.size ≤ 140737488351232) : wrap64 ((x1.size : Int) + 1) = ((x1.size + 1 : Nat) : Int) := by unfold wrap64; omega
theorem big_pos (n : Nat) : (0 : Int) ≤ ((n + 1 : Nat) : Int) := by omega
theorem big_ok (n : Nat) (h : n ≤ 140737488351232) : (((n + 1 : Nat) : Int)).toNat ≤ 281474976710656 := by
  have : (((n + 1 : Nat) : Int)).toNat = n + 1 := Int.toNat_natCast _
  omega

theorem dyn_l1 (x0 x1 : ByteArray) (h0 : x0.size ≤ 140737488351232) (h1 : x1.size ≤ 140737488351232) :
    ∀ (e i k : Nat) (xs : List Bool), x0.size - i = e → i ≤ x0.size → xs.length = x1.size + 1 → Tb xs (x0.data.toList.take i) x1.data.toList x1.size → e * (x1.size + 2) + 1 ≤ k →
    ∃ b, jointerref01_Matches.l1 k x0 x1 xs (i : Int) = some b ∧ (b = true ↔ M x0.data.toList x1.data.toList) := by
  intro e
  have hl0 : x0.data.toList.length = x0.size := by simp
  have hl1 : x1.data.toList.length = x1.size := by simp
  induction e with
  | zero =>
    intro i k xs he hi hx hT hk
    obtain ⟨k, rfl⟩ : ∃ m, k = m + 1 := ⟨k - 1, by omega⟩
    have : i = x0.size := by omega
    subst this
    simp only [jointerref01_Matches.l1]
    rw [if_neg (by omega), if_pos (by omega), if_pos (by omega), rdOf_nat]
    refine ⟨_, rfl, ?_⟩
    rw [hT x1.size (Nat.le_refl _), ← hl0, ← hl1, List.take_length, List.take_length]
  | succ e ih =>
    intro i k xs he hi hx hT hk
    have hmul : (e + 1) * (x1.size + 2) = e * (x1.size + 2) + (x1.size + 2) := by rw [Nat.add_mul, Nat.one_mul]
    obtain ⟨k, rfl⟩ : ∃ m, k = m + 1 := ⟨k - 1, by omega⟩
    have hi1 : (i : Int) < (x0.size : Int) := by omega
    have hi2 : i < x0.size := by omega
    have hfu : x1.size + 1 + (e * (x1.size + 2) + 1) ≤ k := by omega
    have he2 : x0.size - (i + 1) = e := by omega
    have he3 : i + 1 ≤ x0.size := by omega
    have hw := wrap_one x1 h1
    simp only [jointerref01_Matches.l1]
    have c1 := big_pos x1.size
    have c2 := big_ok x1.size h1
    rw [if_pos hi1, hw, if_pos c1, if_pos c2, Int.toNat_natCast]
    clear hw c1 c2
    have hrep : (List.replicate (x1.size + 1) false).length = x1.size + 1 := List.length_replicate
    refine dyn_l2 x0 x1 h0 h1 i hi2 xs hx hT (e * (x1.size + 2) + 1) (fun k' ys hk' hy hTy => ih (i + 1) k' ys he2 he3 hy hTy hk') x1.size 0 k (List.replicate (x1.size + 1) false) (Nat.sub_zero _) (Nat.zero_le _) hrep ?_ hfu
    intro q hq
    have hq0 : q = 0 := by omega
    subst hq0
    have hI : i < x0.data.toList.length := by omega
    rw [take_snoc hI]
    simp [M]

theorem dyn_l0 (x0 x1 : ByteArray) (h0 : x0.size ≤ 140737488351232) (h1 : x1.size ≤ 140737488351232) :
    ∀ (d j k : Nat) (xs : List Bool), x1.size - j = d → j ≤ x1.size → xs.length = x1.size + 1 → Tb xs [] x1.data.toList j → d + 1 + (x0.size * (x1.size + 2) + 1) ≤ k →
    ∃ b, jointerref01_Matches.l0 k x0 x1 xs (j : Int) = some b ∧ (b = true ↔ M x0.data.toList x1.data.toList) := by
  intro d
  have hl1 : x1.data.toList.length = x1.size := by simp
  induction d with
  | zero =>
    intro j k xs hd hj hx hT hk
    obtain ⟨k, rfl⟩ : ∃ m, k = m + 1 := ⟨k - 1, by omega⟩
    have : j = x1.size := by omega
    subst this
    simp only [jointerref01_Matches.l0]
    rw [if_neg (by omega)]
    exact dyn_l1 x0 x1 h0 h1 x0.size 0 k xs (by omega) (by omega) hx (by simpa using hT) (by omega)
  | succ d ih =>
    intro j k xs hd hj hx hT hk
    obtain ⟨k, rfl⟩ : ∃ m, k = m + 1 := ⟨k - 1, by omega⟩
    have hj' : j < x1.size := by omega
    have hP : j < x1.data.toList.length := by rw [hl1]; exact hj'
    have eP := take_snoc hP
    simp only [jointerref01_Matches.l0]
    rw [if_pos (by omega), if_pos (by omega), if_pos (by omega), wrap_step hj' (by omega), rdOf_nat, bt_list x1 j hP]
    by_cases hb : xs.getD j false = true
    · rw [if_pos hb, if_pos (by omega), if_pos (by omega), Int.toNat_natCast]
      refine ih (j + 1) k _ (by omega) (by omega) (by simpa using hx) (hT.step (by omega) ?_) (by omega)
      rw [eP, M_nil_snoc, beq_iff_eq, u8_37]
      exact ⟨fun h => ⟨(hT j (Nat.le_refl _)).mp hb, h⟩, fun h => h.2⟩
    · rw [if_neg hb, if_pos (by omega), if_pos (by omega), Int.toNat_natCast]
      refine ih (j + 1) k _ (by omega) (by omega) (by simpa using hx) (hT.step (by omega) ?_) (by omega)
      rw [eP, M_nil_snoc]
      exact ⟨(fun h => by cases h), fun h => absurd ((hT j (Nat.le_refl _)).mpr h.1) hb⟩

theorem rmatches_is (x0 x1 : ByteArray) (h0 : x0.size ≤ 140737488351232) (h1 : x1.size ≤ 140737488351232) (k : Nat) (hk : x1.size + 1 + (x0.size * (x1.size + 2) + 1) ≤ k) :
    ∃ b, jointerref01_Matches.f k x0 x1 = some b ∧ (b = true ↔ M x0.data.toList x1.data.toList) := by
  have hw := wrap_one x1 h1
  unfold jointerref01_Matches.f
  rw [hw, if_pos (big_pos x1.size), if_pos (big_ok x1.size h1), Int.toNat_natCast]
  simp only [Option.bind_some, List.length_replicate]
  rw [if_pos (by omega)]
  refine dyn_l0 x0 x1 h0 h1 x1.size 0 k _ (by omega) (by omega) (by simp) ?_ hk
  intro q hq
  have hq0 : q = 0 := by omega
  subst hq0
  simp [M, List.getD_eq_getElem?_getD]

theorem ValueMatches : jointerlaw01_ValueMatches.Pure := by
  intro a b h0 h1
  refine ⟨3 * (a.size * (a.size + b.size + 2) + a.size + b.size) + 4 + (b.size + 1 + (a.size * (b.size + 2) + 1)) + 40, ?_⟩
  unfold jointerlaw01_ValueMatches.f
  obtain ⟨b1, e1, m1⟩ := rmatches_is a b h0 h1 (3 * (a.size * (a.size + b.size + 2) + a.size + b.size) + 4 + (b.size + 1 + (a.size * (b.size + 2) + 1)) + 40) (by omega)
  obtain ⟨b2, e2, m2⟩ := matches_is a b h0 h1 (3 * (a.size * (a.size + b.size + 2) + a.size + b.size) + 4 + (b.size + 1 + (a.size * (b.size + 2) + 1)) + 40) (by omega)
  rw [e1, e2, awake_from (by omega)]
  have : b2 = b1 := by rw [Bool.eq_iff_iff, m1, m2]
  subst this
  simp
end Go.Proofs.YtafdoogghalpjaaGreatDoor.PAll
