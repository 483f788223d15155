/- The reference's bytes, blanks and keywords without Go and memory. -/
import Derived.Test.YtaibkpbiccibjaaDoorLPBase
import Derived.Test.YtaibkpbiccibjaaDoorLFa
import Derived.Test.YtaibkpbiccibjaaDoorLFold
set_option linter.unusedVariables false
namespace Go.Proofs.YtaibkpbiccibjaaDoor.PAll
open Go.RowKit Go.Proofs.YtaibkpbiccibjaaDoorW.PrintWords Go.Proofs.YtaibkpbiccibjaaDoorW.PrintLast Go.Proofs.YtaibkpbiccibjaaDoorW.PrintMore

theorem ref_blank (b : UInt8) : jointerref02_isBlank.f b.toNat = some (Lx.isBl b) := by
  have h : ∀ n : Fin 256, jointerref02_isBlank.f ((UInt8.ofNat n.val).toNat : Nat) = some (Lx.isBl (UInt8.ofNat n.val)) := by decide +kernel
  have := h ⟨b.toNat, b.toNat_lt⟩
  simpa using this
theorem ref_letter (b : UInt8) : jointerref02_isLetter.f b.toNat = some (Lx.isLet b) := by
  have h : ∀ n : Fin 256, jointerref02_isLetter.f ((UInt8.ofNat n.val).toNat : Nat) = some (Lx.isLet (UInt8.ofNat n.val)) := by decide +kernel
  have := h ⟨b.toNat, b.toNat_lt⟩
  simpa using this
theorem ref_digit (b : UInt8) : jointerref02_isDigit.f b.toNat = some (Lx.isDig b) := by
  have h : ∀ n : Fin 256, jointerref02_isDigit.f ((UInt8.ofNat n.val).toNat : Nat) = some (Lx.isDig (UInt8.ofNat n.val)) := by decide +kernel
  have := h ⟨b.toNat, b.toNat_lt⟩
  simpa using this

theorem byte_int (b : UInt8) (n : Nat) (hn : n < 256) : ((b.toNat : Nat) : Int) = (n : Int) ↔ b.toNat = n := by omega

theorem ref_skip_l (s : ByteArray) (hs : s.size ≤ 140737488351232) : ∀ (d i k : Nat), i + d = s.size → 4 * d + 3 ≤ k →
    jointerref02_skip.l0 k s (i : Int) = some ((i + Lx.skipC false (s.data.toList.drop i) : Nat) : Int) ∧ jointerref02_skip.l1 k s (i : Int) = some ((i + Lx.skipC true (s.data.toList.drop i) : Nat) : Int) := by
  intro d
  induction d with
  | zero =>
    intro i k hi hk
    obtain ⟨k, rfl⟩ : ∃ m, k = m + 2 := ⟨k - 2, by omega⟩
    have e : s.data.toList.drop i = [] := List.drop_eq_nil_of_le (by simp; omega)
    rw [e, jointerref02_skip.l0, jointerref02_skip.l1, if_neg (by omega), if_neg (by omega), jointerref02_skip.l0, if_neg (by omega)]
    exact ⟨rfl, rfl⟩
  | succ d ih =>
    intro i k hi hk
    obtain ⟨k, rfl⟩ : ∃ m, k = m + 3 := ⟨k - 3, by omega⟩
    have hlt : i < s.size := by omega
    have hd := drop_at hlt
    have hw := wrap_nat i (by omega)
    have hb := ref_blank s[i]
    -- what the blank's round comes to, at any number of rounds
    have zero : ∀ m, 4 * d + 6 ≤ m → jointerref02_skip.l0 m s (i : Int) = some ((i + Lx.skipC false (s.data.toList.drop i) : Nat) : Int) := by
      intro m hm
      obtain ⟨m, rfl⟩ : ∃ q, m = q + 3 := ⟨m - 3, by omega⟩
      rw [jointerref02_skip.l0, if_pos (by omega), if_pos (by omega), bt_nat hlt, hb, Option.bind_some, hd, Lx.skipC]
      by_cases hbl : Lx.isBl s[i] = true
      · rw [if_pos hbl, if_pos hbl, hw, (ih (i + 1) (m + 2) (by omega) (by omega)).1]
        congr 2
        omega
      · rw [if_neg hbl, if_neg hbl, hw]
        by_cases he : i + 1 ≥ s.size
        · have e : s.data.toList.drop (i + 1) = [] := List.drop_eq_nil_of_le (by simp; omega)
          rw [if_pos (by omega), e, if_neg (by simp), jointerref02_skip.j1, if_pos rfl]
          rfl
        · rw [if_neg (by omega)]
          by_cases h45 : s[i].toNat = 45
          · rw [if_pos (by omega), if_pos (by omega), if_pos (by omega), bt_nat (by omega : i + 1 < s.size)]
            have hd1 := drop_at (by omega : i + 1 < s.size)
            by_cases h2 : s[i + 1] = 45
            · have hh : ((s[i + 1].toNat : Nat) : Int) = 45 := by rw [h2]; rfl
              have hbne : (((s[i + 1].toNat : Nat) : Int) != 45) = false := by rw [hh]; rfl
              rw [hbne, jointerref02_skip.j1, if_neg (by decide), if_pos ⟨h45, by rw [hd1, h2]; rfl⟩]
              rw [jointerref02_skip.l1, if_pos (by omega), if_pos (by omega), bt_nat hlt, if_neg (by omega), hw]
              rw [(ih (i + 1) m (by omega) (by omega)).2]
              congr 2
              omega
            · have hh : ¬ s[i + 1].toNat = 45 := fun e => h2 (UInt8.toNat_inj.1 e)
              have hbne : (((s[i + 1].toNat : Nat) : Int) != 45) = true := bne_iff_ne.mpr (by omega)
              rw [hbne, jointerref02_skip.j1, if_pos rfl, if_neg (by rw [hd1]; simp; intro _ e; exact h2 e)]
              rfl
          · rw [if_neg (by omega), jointerref02_skip.j1, if_pos rfl, if_neg (fun h => h45 h.1)]
            rfl
    refine ⟨zero (k + 3) (by omega), ?_⟩
    rw [jointerref02_skip.l1, if_pos (by omega), if_pos (by omega), bt_nat hlt]
    by_cases h10 : s[i].toNat = 10
    · rw [if_pos (by omega), zero (k + 2) (by omega), hd, Lx.skipC, Lx.skipC, if_pos h10]
      have : Lx.isBl s[i] = true := by unfold Lx.isBl; simp [h10]
      rw [if_pos this]
    · rw [if_neg (by omega), hw, (ih (i + 1) (k + 2) (by omega) (by omega)).2, hd, Lx.skipC, if_neg h10]
      congr 2
      omega
theorem ref_skip (s : ByteArray) (hs : s.size ≤ 140737488351232) (i k : Nat) (hi : i ≤ s.size) (hk : 4 * s.size + 3 ≤ k) : jointerref02_skip.f k s (i : Int) = some ((i + Lx.skipC false (s.data.toList.drop i) : Nat) : Int) := by
  unfold jointerref02_skip.f
  exact (ref_skip_l s hs (s.size - i) i k (by omega) (by omega)).1

/-! ### Keywords -/
theorem kw_upper : ∀ l : List UInt8, isKw l = true → l ≠ [] ∧ ∀ b ∈ l, 65 ≤ b.toNat ∧ b.toNat ≤ 90 := by
  have h : kwsL.all (fun l => decide (l ≠ []) && l.all (fun b => decide (65 ≤ b.toNat) && decide (b.toNat ≤ 90))) = true := by decide +kernel
  intro l hl
  unfold isKw at hl
  rw [List.contains_iff_mem] at hl
  have := List.all_eq_true.1 h l hl
  simp only [Bool.and_eq_true, decide_eq_true_eq, List.all_eq_true] at this
  exact this
def runAt (i : Nat) : List UInt8 := (kwL.drop (i + 1)).takeWhile (fun b => b != 32)
theorem kw_runs : ∀ i : Fin 372, kwL.drop i.val = 32 :: kwL.drop (i.val + 1) → runAt i.val = [] ∨ isKw (runAt i.val) = true := by decide +kernel
theorem kw_found : ∀ w ∈ kwsL, ∃ i : Fin 372, i.val + w.length + 2 ≤ 372 ∧ (kwL.drop i.val).take (w.length + 2) = 32 :: (w ++ [32]) := by decide +kernel
def kwM' (s : List UInt8) (i : Nat) : Bool := (kwL.drop i).take (s.length + 2) == 32 :: (s ++ [32])
theorem kw_any (s : List UInt8) (hne : s ≠ []) (hns : ∀ b ∈ s, b ≠ 32) : ((List.range (371 - s.length)).any (kwM' s)) = isKw s := by
  rw [Bool.eq_iff_iff, List.any_eq_true]
  constructor
  · rintro ⟨i, hi, hm⟩
    rw [List.mem_range] at hi
    unfold kwM' at hm
    rw [beq_iff_eq] at hm
    have hpre : 32 :: (s ++ [32]) <+: kwL.drop i := by rw [← hm]; exact List.take_prefix _ _
    obtain ⟨R, hR⟩ := hpre
    have hd : kwL.drop (i + 1) = s ++ 32 :: R := by
      rw [← List.drop_drop, ← hR]
      simp
    have hrun : runAt i = s := by
      unfold runAt
      rw [hd]
      exact Lx.takeWhile_all s (32 :: R) (fun b hb => by simpa using hns b hb) (by rfl)
    rcases kw_runs ⟨i, by omega⟩ (by rw [← hR, hd]; simp) with h | h
    · rw [hrun] at h; exact absurd h hne
    · rw [hrun] at h; exact h
  · intro h
    unfold isKw at h
    rw [List.contains_iff_mem] at h
    obtain ⟨i, hi, hm⟩ := kw_found s h
    exact ⟨i.val, List.mem_range.2 (by omega), by unfold kwM'; rw [beq_iff_eq]; exact hm⟩

theorem ref_kw_l1 (s : ByteArray) (hs : s.size ≤ 140737488351232) : ∀ (d i k : Nat), i + d + s.size = 371 ∨ (d = 0 ∧ 371 ≤ i + s.size) → i ≤ 372 → d < k → jointerref02_IsKeyword.l1 k s (i : Int) = some ((List.range d).any (fun q => kwM' s.data.toList (i + q))) := by
  have hsl : s.data.toList.length = s.size := by simp
  intro d
  induction d with
  | zero =>
    intro i k hi h372 hk
    obtain ⟨k, rfl⟩ : ∃ m, k = m + 1 := ⟨k - 1, by omega⟩
    have hw : wrap64 ((wrap64 ((i : Int) + (s.size : Int))) + 2) = ((i + s.size + 2 : Nat) : Int) := by unfold wrap64; omega
    rw [jointerref02_IsKeyword.l1, hw, if_neg (by omega)]
    rfl
  | succ d ih =>
    intro i k hi h372 hk
    obtain ⟨k, rfl⟩ : ∃ m, k = m + 1 := ⟨k - 1, by omega⟩
    have hi' : i + (d + 1) + s.size = 371 := by omega
    have hw : wrap64 ((wrap64 ((i : Int) + (s.size : Int))) + 2) = ((i + s.size + 2 : Nat) : Int) := by unfold wrap64; omega
    have hz : ((⟨#[32]⟩ : ByteArray) ++ s).size = 1 + s.size := by rw [ByteArray.size_append]; rfl
    rw [jointerref02_IsKeyword.l1, hw, if_pos (by omega), if_pos (by omega), if_pos (by omega), if_pos (by omega), if_pos (by omega)]
    rw [show ((i : Nat) : Int).toNat = i by omega, show ((i + s.size + 2 : Nat) : Int).toNat = i + s.size + 2 by omega]
    have hl : (kwB.extract i (i + s.size + 2)).toList = (kwL.drop i).take (s.data.toList.length + 2) := by
      rw [Lib.toList_data, extract_list', hsl, show i + s.size + 2 - i = s.size + 2 by omega]
      rfl
    have hr : (((⟨#[32]⟩ : ByteArray) ++ s) ++ (⟨#[32]⟩ : ByteArray)).toList = 32 :: (s.data.toList ++ [32]) := by
      rw [Lib.toList_data, ByteArray.data_append, ByteArray.data_append]
      simp
    rw [hl, hr, List.range_succ_eq_map, List.any_cons, List.any_map]
    by_cases hm : (kwL.drop i).take (s.data.toList.length + 2) = 32 :: (s.data.toList ++ [32])
    · have : kwM' s.data.toList (i + 0) = true := by unfold kwM'; rw [beq_iff_eq]; exact hm
      rw [if_pos hm, this, Bool.true_or]
    · have : kwM' s.data.toList (i + 0) = false := by unfold kwM'; rw [beq_eq_false_iff_ne]; exact hm
      rw [if_neg hm, this, Bool.false_or, wrap_nat i (by omega), ih (i + 1) k (by omega) (by omega) (by omega)]
      congr 2
      funext q
      rw [Function.comp, show i + 1 + q = i + (q + 1) by omega]

theorem ref_kw_l0 (s : ByteArray) (hs : s.size ≤ 140737488351232) (hne : s.data.toList ≠ []) : ∀ (d i k : Nat), i + d = s.size → d + 400 ≤ k → (∀ j (hj : j < s.size), j < i → 65 ≤ s[j].toNat ∧ s[j].toNat ≤ 90) → jointerref02_IsKeyword.l0 k s (i : Int) = some (isKw s.data.toList) := by
  have hsl : s.data.toList.length = s.size := by simp
  intro d
  induction d with
  | zero =>
    intro i k hi hk hup
    obtain ⟨k, rfl⟩ : ∃ m, k = m + 1 := ⟨k - 1, by omega⟩
    rw [jointerref02_IsKeyword.l0, if_neg (by omega)]
    have hns : ∀ b ∈ s.data.toList, b ≠ 32 := by
      intro b hb e
      obtain ⟨j, hj, rfl⟩ := List.getElem_of_mem hb
      have hj' : j < s.size := by simpa using hj
      have := hup j hj' (by omega)
      have e2 : s[j] = 32 := e
      rw [e2] at this
      exact absurd this.1 (by decide)
    have h1 := ref_kw_l1 s hs (371 - s.size) 0 k (by omega) (by omega) (by omega)
    rw [show ((0 : Nat) : Int) = (0 : Int) from rfl] at h1
    rw [h1, ← kw_any s.data.toList hne hns, hsl]
    congr 2
    funext q
    rw [Nat.zero_add]
  | succ d ih =>
    intro i k hi hk hup
    obtain ⟨k, rfl⟩ : ∃ m, k = m + 1 := ⟨k - 1, by omega⟩
    have hlt : i < s.size := by omega
    have hmem : s[i] ∈ s.data.toList := by
      have h' : i < s.data.toList.length := by omega
      have := List.getElem_mem h'
      exact this
    rw [jointerref02_IsKeyword.l0, if_pos (by omega), if_pos (by omega), bt_nat hlt]
    by_cases h1 : s[i].toNat < 65
    · have hk0 : isKw s.data.toList = false := by
        rw [← Bool.not_eq_true]
        intro h
        have := (kw_upper _ h).2 _ hmem
        omega
      rw [if_pos (by omega), hk0]
    · rw [if_neg (by omega)]
      by_cases h2 : 90 < s[i].toNat
      · have hk0 : isKw s.data.toList = false := by
          rw [← Bool.not_eq_true]
          intro h
          have := (kw_upper _ h).2 _ hmem
          omega
        rw [if_pos (by omega), hk0]
      · rw [if_neg (by omega), wrap_nat i (by omega)]
        refine ih (i + 1) k (by omega) (by omega) ?_
        intro j hj hji
        rcases Nat.lt_or_ge j i with h | h
        · exact hup j hj h
        · obtain rfl : j = i := by omega
          omega
theorem ref_kw (s : ByteArray) (hs : s.size ≤ 140737488351232) (k : Nat) (hk : s.size + 400 ≤ k) : jointerref02_IsKeyword.f k s = some (isKw s.data.toList) := by
  unfold jointerref02_IsKeyword.f
  by_cases he : s.toList = ([] : List UInt8)
  · rw [if_pos he]
    rw [Lib.toList_data] at he
    rw [he]
    rfl
  · rw [if_neg he]
    rw [Lib.toList_data] at he
    exact ref_kw_l0 s hs he s.size 0 k (by omega) (by omega) (fun j hj h => by omega)
end Go.Proofs.YtaibkpbiccibjaaDoor.PAll
