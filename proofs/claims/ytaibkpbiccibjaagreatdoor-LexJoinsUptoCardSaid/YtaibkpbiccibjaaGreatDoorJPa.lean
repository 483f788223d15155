import Derived.Test.YtaibkpbiccibjaaGreatDoorLAwake
import Derived.Test.YtaibkpbiccibjaaGreatDoorJFa
import Derived.Test.YtaibkpbiccibjaaGreatDoorLFold
import Derived.Test.YtaibkpbiccibjaaGreatDoorLJoin
set_option linter.unusedVariables false
namespace Go.Proofs.YtaibkpbiccibjaaGreatDoor.PAll
open Go.RowKit Go.Proofs.YtaibkpbiccibjaaGreatDoorW.PrintWords Go.Proofs.YtaibkpbiccibjaaGreatDoorW.PrintLast Go.Proofs.YtaibkpbiccibjaaGreatDoorW.PrintMore

theorem awake_true : jointerlaw02_awake.f = some true := by decide +kernel

theorem wrap_nat (n : Nat) (h : n < 4611686018427387904) : wrap64 ((n : Int) + 1) = ((n + 1 : Nat) : Int) := by unfold wrap64; omega

theorem bt_nat {s : ByteArray} {i : Nat} (h : i < s.size) : bt s (i : Int) = (s[i].toNat : Int) := by
  unfold bt
  simp [h]

theorem rdT {xs : List S33} {i : Nat} (h : i < xs.length) : rd_T33 xs (i : Int) = xs[i] := by
  unfold rd_T33
  simp [List.getD, h]

theorem SameTokens_l0 (a b : List S33) (hlen : b.length = a.length) (h : ∀ i (hi : i < a.length) (hj : i < b.length), a[i].f0 = b[i].f0 ∧ a[i].f1.toList = b[i].f1.toList) (hl : a.length < 4611686018427387904) :
    ∀ (d i k : Nat), i + d = a.length → d < k → jointerref02_SameTokens.l0 k a b (i : Int) = some true := by
  intro d
  induction d with
  | zero =>
    intro i k hi hk
    obtain ⟨k, rfl⟩ : ∃ m, k = m + 1 := ⟨k - 1, by omega⟩
    rw [jointerref02_SameTokens.l0, if_neg (by omega)]
  | succ d ih =>
    intro i k hi hk
    obtain ⟨k, rfl⟩ : ∃ m, k = m + 1 := ⟨k - 1, by omega⟩
    have h1 : i < a.length := by omega
    have h2 : i < b.length := by omega
    obtain ⟨e1, e2⟩ := h i h1 h2
    rw [jointerref02_SameTokens.l0, if_pos (by omega), if_pos (by omega), if_pos (by omega), rdT h1, rdT h2, if_pos e1, if_pos e2, wrap_nat i (by omega)]
    exact ih (i + 1) k (by omega) (by omega)

theorem toks_pos (k : Nat) : ∀ (p : Nat) (l : List UInt8) (ts : List (Int × List UInt8 × Nat)), Lx.toks isKw marksL k p l = .good ts → ts.length ≤ l.length ∧ ∀ x ∈ ts, x.2.2 ≤ p + l.length := by
  induction k with
  | zero => intro p l ts h; simp [Lx.toks] at h; subst h; simp
  | succ k ih =>
    intro p l ts h
    have hsk := Lx.skip_le l false
    rw [Lx.toks] at h
    cases hl : l.drop (Lx.skipC false l) with
    | nil => rw [hl] at h; simp at h; subst h; simp
    | cons b r =>
      rw [hl] at h
      simp only at h
      cases ht : Lx.tokL isKw marksL (b :: r) with
      | bad e => rw [ht] at h; cases h
      | good kd t n =>
        rw [ht] at h
        simp only at h
        cases hr : Lx.toks isKw marksL k (p + Lx.skipC false l + n) ((b :: r).drop n) with
        | bad a e => rw [hr] at h; cases h
        | good ts' =>
          rw [hr] at h
          simp only [Lx.Tks.cons] at h
          cases h
          have h1 := Lx.tokL_pos marks_ne ht
          have h2 : (b :: r).length + Lx.skipC false l = l.length := by rw [← hl]; simp; omega
          obtain ⟨g1, g2⟩ := ih _ _ _ hr
          rw [List.length_drop] at g1 g2
          refine ⟨by simp only [List.length_cons] at *; omega, ?_⟩
          intro x hx
          rcases List.mem_cons.1 hx with rfl | hx
          · simp only; omega
          · have := g2 x hx; simp only [List.length_cons] at *; omega

end Go.Proofs.YtaibkpbiccibjaaGreatDoor.PAll

set_option linter.unusedVariables false
namespace Go.Proofs.YtaibkpbiccibjaaGreatDoor.PAll
open Go.RowKit Go.Proofs.YtaibkpbiccibjaaGreatDoorW.PrintWords Go.Proofs.YtaibkpbiccibjaaGreatDoorW.PrintLast Go.Proofs.YtaibkpbiccibjaaGreatDoorW.PrintMore
theorem ref_letter (b : UInt8) : jointerref02_isLetter.f b.toNat = some (Lx.isLet b) := by
  have h : ∀ n : Fin 256, jointerref02_isLetter.f ((UInt8.ofNat n.val).toNat : Nat) = some (Lx.isLet (UInt8.ofNat n.val)) := by decide +kernel
  have := h ⟨b.toNat, b.toNat_lt⟩
  simpa using this

theorem ref_digit (b : UInt8) : jointerref02_isDigit.f b.toNat = some (Lx.isDig b) := by
  have h : ∀ n : Fin 256, jointerref02_isDigit.f ((UInt8.ofNat n.val).toNat : Nat) = some (Lx.isDig (UInt8.ofNat n.val)) := by decide +kernel
  have := h ⟨b.toNat, b.toNat_lt⟩
  simpa using this

theorem byte_int (b : UInt8) (n : Nat) (hn : n < 256) : ((b.toNat : Nat) : Int) = (n : Int) ↔ b.toNat = n := by omega

theorem kw_upper : ∀ l : List UInt8, isKw l = true → l ≠ [] ∧ ∀ b ∈ l, 65 ≤ b.toNat ∧ b.toNat ≤ 90 := by
  have h : kwsL.all (fun l => decide (l ≠ []) && l.all (fun b => decide (65 ≤ b.toNat) && decide (b.toNat ≤ 90))) = true := by decide +kernel
  intro l hl
  unfold isKw at hl
  rw [List.contains_iff_mem] at hl
  have := List.all_eq_true.1 h l hl
  simp only [Bool.and_eq_true, decide_eq_true_eq, List.all_eq_true] at this
  exact this

def runAt (i : Nat) : List UInt8 := (kwL.drop (i + 1)).takeWhile (fun b => b != 32)

theorem kw_runs : ∀ i : Fin 372, kwL.drop i.val = 32 :: kwL.drop (i.val + 1) → runAt i.val = [] ∨ isKw (runAt i.val) = true := by decide +kernel

theorem kw_found : ∀ w ∈ kwsL, ∃ i : Fin 372, i.val + w.length + 2 ≤ 372 ∧ (kwL.drop i.val).take (w.length + 2) = 32 :: (w ++ [32]) := by decide +kernel

def kwM' (s : List UInt8) (i : Nat) : Bool := (kwL.drop i).take (s.length + 2) == 32 :: (s ++ [32])

theorem kw_any (s : List UInt8) (hne : s ≠ []) (hns : ∀ b ∈ s, b ≠ 32) : ((List.range (371 - s.length)).any (kwM' s)) = isKw s := by
  rw [Bool.eq_iff_iff, List.any_eq_true]
  constructor
  · rintro ⟨i, hi, hm⟩
    rw [List.mem_range] at hi
    unfold kwM' at hm
    rw [beq_iff_eq] at hm
    have hpre : 32 :: (s ++ [32]) <+: kwL.drop i := by rw [← hm]; exact List.take_prefix _ _
    obtain ⟨R, hR⟩ := hpre
    have hd : kwL.drop (i + 1) = s ++ 32 :: R := by
      rw [← List.drop_drop, ← hR]
      simp
    have hrun : runAt i = s := by
      unfold runAt
      rw [hd]
      exact Lx.takeWhile_all s (32 :: R) (fun b hb => by simpa using hns b hb) (by rfl)
    rcases kw_runs ⟨i, by omega⟩ (by rw [← hR, hd]; simp) with h | h
    · rw [hrun] at h; exact absurd h hne
    · rw [hrun] at h; exact h
  · intro h
    unfold isKw at h
    rw [List.contains_iff_mem] at h
    obtain ⟨i, hi, hm⟩ := kw_found s h
    exact ⟨i.val, List.mem_range.2 (by omega), by unfold kwM'; rw [beq_iff_eq]; exact hm⟩

theorem ref_kw_l1 (s : ByteArray) (hs : s.size ≤ 140737488351232) : ∀ (d i k : Nat), i + d + s.size = 371 ∨ (d = 0 ∧ 371 ≤ i + s.size) → i ≤ 372 → d < k → jointerref02_IsKeyword.l1 k s (i : Int) = some ((List.range d).any (fun q => kwM' s.data.toList (i + q))) := by
  have hsl : s.data.toList.length = s.size := by simp
  intro d
  induction d with
  | zero =>
    intro i k hi h372 hk
    obtain ⟨k, rfl⟩ : ∃ m, k = m + 1 := ⟨k - 1, by omega⟩
    have hw : wrap64 ((wrap64 ((i : Int) + (s.size : Int))) + 2) = ((i + s.size + 2 : Nat) : Int) := by unfold wrap64; omega
    rw [jointerref02_IsKeyword.l1, hw, if_neg (by omega)]
    rfl
  | succ d ih =>
    intro i k hi h372 hk
    obtain ⟨k, rfl⟩ : ∃ m, k = m + 1 := ⟨k - 1, by omega⟩
    have hi' : i + (d + 1) + s.size = 371 := by omega
    have hw : wrap64 ((wrap64 ((i : Int) + (s.size : Int))) + 2) = ((i + s.size + 2 : Nat) : Int) := by unfold wrap64; omega
    have hz : ((⟨#[32]⟩ : ByteArray) ++ s).size = 1 + s.size := by rw [ByteArray.size_append]; rfl
    rw [jointerref02_IsKeyword.l1, hw, if_pos (by omega), if_pos (by omega), if_pos (by omega), if_pos (by omega), if_pos (by omega)]
    rw [show ((i : Nat) : Int).toNat = i by omega, show ((i + s.size + 2 : Nat) : Int).toNat = i + s.size + 2 by omega]
    have hl : (kwB.extract i (i + s.size + 2)).toList = (kwL.drop i).take (s.data.toList.length + 2) := by
      rw [Lib.toList_data, extract_list', hsl, show i + s.size + 2 - i = s.size + 2 by omega]
      rfl
    have hr : (((⟨#[32]⟩ : ByteArray) ++ s) ++ (⟨#[32]⟩ : ByteArray)).toList = 32 :: (s.data.toList ++ [32]) := by
      rw [Lib.toList_data, ByteArray.data_append, ByteArray.data_append]
      simp
    rw [hl, hr, List.range_succ_eq_map, List.any_cons, List.any_map]
    by_cases hm : (kwL.drop i).take (s.data.toList.length + 2) = 32 :: (s.data.toList ++ [32])
    · have : kwM' s.data.toList (i + 0) = true := by unfold kwM'; rw [beq_iff_eq]; exact hm
      rw [if_pos hm, this, Bool.true_or]
    · have : kwM' s.data.toList (i + 0) = false := by unfold kwM'; rw [beq_eq_false_iff_ne]; exact hm
      rw [if_neg hm, this, Bool.false_or, wrap_nat i (by omega), ih (i + 1) k (by omega) (by omega) (by omega)]
      congr 2
      funext q
      rw [Function.comp, show i + 1 + q = i + (q + 1) by omega]

theorem ref_kw_l0 (s : ByteArray) (hs : s.size ≤ 140737488351232) (hne : s.data.toList ≠ []) : ∀ (d i k : Nat), i + d = s.size → d + 400 ≤ k → (∀ j (hj : j < s.size), j < i → 65 ≤ s[j].toNat ∧ s[j].toNat ≤ 90) → jointerref02_IsKeyword.l0 k s (i : Int) = some (isKw s.data.toList) := by
  have hsl : s.data.toList.length = s.size := by simp
  intro d
  induction d with
  | zero =>
    intro i k hi hk hup
    obtain ⟨k, rfl⟩ : ∃ m, k = m + 1 := ⟨k - 1, by omega⟩
    rw [jointerref02_IsKeyword.l0, if_neg (by omega)]
    have hns : ∀ b ∈ s.data.toList, b ≠ 32 := by
      intro b hb e
      obtain ⟨j, hj, rfl⟩ := List.getElem_of_mem hb
      have hj' : j < s.size := by simpa using hj
      have := hup j hj' (by omega)
      have e2 : s[j] = 32 := e
      rw [e2] at this
      exact absurd this.1 (by decide)
    have h1 := ref_kw_l1 s hs (371 - s.size) 0 k (by omega) (by omega) (by omega)
    rw [show ((0 : Nat) : Int) = (0 : Int) from rfl] at h1
    rw [h1, ← kw_any s.data.toList hne hns, hsl]
    congr 2
    funext q
    rw [Nat.zero_add]
  | succ d ih =>
    intro i k hi hk hup
    obtain ⟨k, rfl⟩ : ∃ m, k = m + 1 := ⟨k - 1, by omega⟩
    have hlt : i < s.size := by omega
    have hmem : s[i] ∈ s.data.toList := by
      have h' : i < s.data.toList.length := by omega
      have := List.getElem_mem h'
      exact this
    rw [jointerref02_IsKeyword.l0, if_pos (by omega), if_pos (by omega), bt_nat hlt]
    by_cases h1 : s[i].toNat < 65
    · have hk0 : isKw s.data.toList = false := by
        rw [← Bool.not_eq_true]
        intro h
        have := (kw_upper _ h).2 _ hmem
        omega
      rw [if_pos (by omega), hk0]
    · rw [if_neg (by omega)]
      by_cases h2 : 90 < s[i].toNat
      · have hk0 : isKw s.data.toList = false := by
          rw [← Bool.not_eq_true]
          intro h
          have := (kw_upper _ h).2 _ hmem
          omega
        rw [if_pos (by omega), hk0]
      · rw [if_neg (by omega), wrap_nat i (by omega)]
        refine ih (i + 1) k (by omega) (by omega) ?_
        intro j hj hji
        rcases Nat.lt_or_ge j i with h | h
        · exact hup j hj h
        · obtain rfl : j = i := by omega
          omega

theorem ref_kw (s : ByteArray) (hs : s.size ≤ 140737488351232) (k : Nat) (hk : s.size + 400 ≤ k) : jointerref02_IsKeyword.f k s = some (isKw s.data.toList) := by
  unfold jointerref02_IsKeyword.f
  by_cases he : s.toList = ([] : List UInt8)
  · rw [if_pos he]
    rw [Lib.toList_data] at he
    rw [he]
    rfl
  · rw [if_neg he]
    rw [Lib.toList_data] at he
    exact ref_kw_l0 s hs he s.size 0 k (by omega) (by omega) (fun j hj h => by omega)


def nu (b : UInt8) : Bool := !(decide (65 ≤ b.toNat) && decide (b.toNat ≤ 90))

theorem byte_all {p : UInt8 → Prop} (h : ∀ n : Fin 256, p (UInt8.ofNat n.val)) (b : UInt8) : p b := by
  have := h ⟨b.toNat, b.toNat_lt⟩
  simpa using this

theorem let_dig (b : UInt8) : (Lx.isLet b && Lx.isDig b) = false := byte_all (p := fun b => (Lx.isLet b && Lx.isDig b) = false) (by decide +kernel) b

theorem dig_nu (b : UInt8) : (Lx.isDig b && !nu b) = false := byte_all (p := fun b => (Lx.isDig b && !nu b) = false) (by decide +kernel) b

theorem ref_name_l0 (s : ByteArray) (hs : s.size ≤ 20) : ∀ (d i k : Nat), i + d = s.size → d + 430 ≤ k →
    jointerref02_IsName.l0 k s (i : Int) = some ((s.data.toList.drop i).all (fun b => Lx.isWord b && nu b) && !isKw (s.data.toList.map Lx.up)) := by
  have hsl : s.data.toList.length = s.size := by simp
  intro d
  induction d with
  | zero =>
    intro i k hi hk
    obtain ⟨k, rfl⟩ : ∃ m, k = m + 1 := ⟨k - 1, by omega⟩
    have e : s.data.toList.drop i = [] := List.drop_eq_nil_of_le (by omega)
    have hz : (⟨(s.data.toList.map (foldB true)).toArray⟩ : ByteArray).size = s.size := by
      show (s.data.toList.map (foldB true)).toArray.size = _
      rw [List.size_toArray, List.length_map, hsl]
    rw [jointerref02_IsName.l0, if_neg (by omega), jointerref02_folded.f, if_pos (by omega), Option.bind_some, ref_kw _ (by omega) k (by omega), Option.bind_some, e]
    rfl
  | succ d ih =>
    intro i k hi hk
    obtain ⟨k, rfl⟩ : ∃ m, k = m + 1 := ⟨k - 1, by omega⟩
    have hlt : i < s.size := by omega
    rw [jointerref02_IsName.l0, if_pos (by omega), if_pos (by omega), bt_nat hlt, ref_letter, Option.bind_some, wrap_nat i (by omega), drop_at hlt, List.all_cons, ih (i + 1) k (by omega) (by omega), ref_digit]
    simp only [Option.bind_some]
    have hN : nu s[i] = !(decide (65 ≤ s[i].toNat) && decide (s[i].toNat ≤ 90)) := rfl
    by_cases hL : Lx.isLet s[i] = true
    · have hW : Lx.isWord s[i] = true := by unfold Lx.isWord; rw [hL]; rfl
      rw [if_pos hL, hW, Bool.true_and]
      by_cases h1 : 65 ≤ s[i].toNat
      · rw [if_pos (by omega)]
        by_cases h2 : s[i].toNat ≤ 90
        · rw [if_pos (by omega), hN, decide_eq_true h1, decide_eq_true h2]; rfl
        · rw [if_neg (by omega), hN, decide_eq_true h1, decide_eq_false h2]; rfl
      · rw [if_neg (by omega), hN, decide_eq_false h1]; rfl
    · rw [if_neg hL]
      by_cases hD : Lx.isDig s[i] = true
      · have hW : Lx.isWord s[i] = true := by unfold Lx.isWord; rw [hD, Bool.or_true]
        have hn : nu s[i] = true := by
          have := dig_nu s[i]
          rw [hD, Bool.true_and] at this
          simpa using this
        rw [if_pos hD, hW, hn, Bool.true_and]
        rw [hN] at hn
        by_cases h1 : 65 ≤ s[i].toNat
        · rw [if_pos (by omega)]
          by_cases h2 : s[i].toNat ≤ 90
          · rw [decide_eq_true h1, decide_eq_true h2] at hn; exact absurd hn (by decide)
          · rw [if_neg (by omega)]; rfl
        · rw [if_neg (by omega)]; rfl
      · have hW : Lx.isWord s[i] = false := by
          unfold Lx.isWord
          rw [Bool.not_eq_true] at hL hD
          rw [hL, hD]; rfl
        rw [if_neg hD, hW]
        rfl

theorem isNm_eq (b : UInt8) (r : List UInt8) : Lx.isNm isKw (b :: r) = (decide ((b :: r).length ≤ 20) && Lx.isLet b && ((b :: r).all Lx.isWord && (b :: r).all nu) && !isKw ((b :: r).map Lx.up)) := by
  have h : ∀ l : List UInt8, l.all (fun b => Lx.isWord b && !(decide (65 ≤ b.toNat) && decide (b.toNat ≤ 90))) = (l.all Lx.isWord && l.all nu) := by
    intro l
    induction l with
    | nil => rfl
    | cons c t ih =>
      rw [List.all_cons, List.all_cons, List.all_cons, ih]
      show (Lx.isWord c && nu c && _) = _
      cases Lx.isWord c <;> cases nu c <;> simp
  unfold Lx.isNm
  rw [h]
  simp

theorem ref_name_is (s : ByteArray) (k : Nat) (hk : 460 ≤ k) : jointerref02_IsName.f k s = some (Lx.isNm isKw s.data.toList) := by
  have hsl : s.data.toList.length = s.size := by simp
  unfold jointerref02_IsName.f
  rw [Lib.toList_data]
  obtain ⟨k, rfl⟩ : ∃ m, k = m + 1 := ⟨k - 1, by omega⟩
  cases hl : s.data.toList with
  | nil => rw [if_pos rfl, jointerref02_IsName.j0, if_pos rfl]; rfl
  | cons b r =>
    have h0 : 0 < s.size := by rw [← hsl, hl]; exact Nat.succ_pos _
    rw [if_neg (by simp)]
    by_cases h20 : s.size ≤ 20
    · have hb : s[0] = b := by
        have := drop_at h0
        rw [List.drop_zero, hl] at this
        exact (List.cons.inj this).1.symm
      have hbt := bt_nat h0
      rw [show ((0 : Nat) : Int) = (0 : Int) from rfl, hb] at hbt
      rw [if_neg (by omega), if_pos (by omega), hbt, ref_digit, Option.bind_some, jointerref02_IsName.j0, isNm_eq]
      have h1 := ref_name_l0 s h20 s.size 0 k (by omega) (by omega)
      rw [show ((0 : Nat) : Int) = (0 : Int) from rfl, List.drop_zero, hl] at h1
      have hlen : (b :: r).length ≤ 20 := by rw [← hl, hsl]; exact h20
      have hall : ∀ l : List UInt8, l.all (fun b => Lx.isWord b && nu b) = (l.all Lx.isWord && l.all nu) := by
        intro l
        induction l with
        | nil => rfl
        | cons c t ih =>
          rw [List.all_cons, List.all_cons, List.all_cons, ih]
          cases Lx.isWord c <;> cases nu c <;> simp
      rw [decide_eq_true hlen, Bool.true_and]
      have hld := let_dig b
      by_cases hD : Lx.isDig b = true
      · rw [hD, Bool.and_true] at hld
        rw [if_pos hD, hld]
        rfl
      · rw [if_neg hD, h1, hall]
        rw [Bool.not_eq_true] at hD
        rw [List.all_cons (f := Lx.isWord)]
        have hW : Lx.isWord b = Lx.isLet b := by unfold Lx.isWord; rw [hD, Bool.or_false]
        rw [hW]
        cases Lx.isLet b <;> simp
    · have hlen : ¬ (b :: r).length ≤ 20 := by rw [← hl, hsl]; exact h20
      rw [if_pos (by omega), jointerref02_IsName.j0, if_pos rfl, isNm_eq, decide_eq_false hlen]
      rfl

theorem num_foldl : ∀ (l : List UInt8) (n : Nat), l.foldl Lx.digStep n = n * 10 ^ l.length + l.foldl Lx.digStep 0
  | [], n => by simp
  | b :: r, n => by
    rw [List.foldl_cons, List.foldl_cons, num_foldl r (Lx.digStep n b), num_foldl r (Lx.digStep 0 b)]
    unfold Lx.digStep
    rw [List.length_cons, Nat.pow_succ, Nat.add_mul, Nat.add_mul, Nat.zero_mul, Nat.zero_add, Nat.mul_assoc, Nat.mul_comm 10, Nat.add_assoc]

theorem num_cons (b : UInt8) (r : List UInt8) : Lx.numD (b :: r) = (b.toNat - 48) * 10 ^ r.length + Lx.numD r := by
  unfold Lx.numD
  rw [List.foldl_cons, num_foldl]
  unfold Lx.digStep
  rw [Nat.zero_mul, Nat.zero_add]

theorem num_lt : ∀ (l : List UInt8), (∀ b ∈ l, Lx.isDig b = true) → Lx.numD l < 10 ^ l.length
  | [], _ => by decide
  | b :: r, h => by
    have h1 := num_lt r (fun c hc => h c (by simp [hc]))
    have h2 : b.toNat - 48 ≤ 9 := by
      have := h b (by simp)
      unfold Lx.isDig at this
      simp only [Bool.and_eq_true, decide_eq_true_eq] at this
      omega
    rw [num_cons, List.length_cons, Nat.pow_succ]
    have h3 : (b.toNat - 48) * 10 ^ r.length ≤ 9 * 10 ^ r.length := Nat.mul_le_mul_right _ h2
    omega

theorem num_cmp (a b : UInt8) (x y : List UInt8) (hl : x.length = y.length) (ha : Lx.isDig a = true) (hb : Lx.isDig b = true) (hx : ∀ c ∈ x, Lx.isDig c = true) (hy : ∀ c ∈ y, Lx.isDig c = true) (hab : a ≠ b) :
    decide (Lx.numD (a :: x) ≤ Lx.numD (b :: y)) = decide (a.toNat < b.toNat) := by
  have h1 := num_lt x hx
  have h2 := num_lt y hy
  rw [num_cons, num_cons, hl]
  rw [hl] at h1
  unfold Lx.isDig at ha hb
  simp only [Bool.and_eq_true, decide_eq_true_eq] at ha hb
  have hne : a.toNat ≠ b.toNat := fun e => hab (UInt8.toNat_inj.1 e)
  by_cases hlt : a.toNat < b.toNat
  · rw [decide_eq_true hlt, decide_eq_true_eq]
    have h3 : (a.toNat - 48 + 1) * 10 ^ y.length ≤ (b.toNat - 48) * 10 ^ y.length := Nat.mul_le_mul_right _ (by omega)
    rw [Nat.add_mul, Nat.one_mul] at h3
    omega
  · rw [decide_eq_false hlt, decide_eq_false_iff_not]
    have h3 : (b.toNat - 48 + 1) * 10 ^ y.length ≤ (a.toNat - 48) * 10 ^ y.length := Nat.mul_le_mul_right _ (by omega)
    rw [Nat.add_mul, Nat.one_mul] at h3
    omega

def maxB : ByteArray := ⟨#[57, 50, 50, 51, 51, 55, 50, 48, 51, 54, 56, 53, 52, 55, 55, 53, 56, 48, 56]⟩

theorem maxB_size : maxB.size = 19 := rfl

theorem maxB_num : Lx.numD maxB.data.toList = 9223372036854775808 := by decide +kernel

theorem maxB_dig : ∀ b ∈ maxB.data.toList, Lx.isDig b = true := by decide +kernel

theorem small_l1 (s : ByteArray) (hs : s.size = 19) (hd : ∀ b ∈ s.data.toList, Lx.isDig b = true) : ∀ (d i k : Nat), i + d = 19 → d < k →
    jointerref02_isSmall.l1 k s (i : Int) = some (decide (Lx.numD (s.data.toList.drop i) ≤ Lx.numD (maxB.data.toList.drop i))) := by
  have hsl : s.data.toList.length = s.size := by simp
  have hml : maxB.data.toList.length = 19 := rfl
  intro d
  induction d with
  | zero =>
    intro i k hi hk
    obtain ⟨k, rfl⟩ : ∃ m, k = m + 1 := ⟨k - 1, by omega⟩
    have e : s.data.toList.drop i = [] := List.drop_eq_nil_of_le (by omega)
    have e2 : maxB.data.toList.drop i = [] := List.drop_eq_nil_of_le (by omega)
    rw [jointerref02_isSmall.l1, if_neg (by omega), e, e2]
    rfl
  | succ d ih =>
    intro i k hi hk
    obtain ⟨k, rfl⟩ : ∃ m, k = m + 1 := ⟨k - 1, by omega⟩
    have hlt : i < s.size := by omega
    have hlt2 : i < maxB.size := by rw [maxB_size]; omega
    have hbm := bt_nat hlt2
    rw [jointerref02_isSmall.l1, if_pos (by omega), if_pos (by omega), if_pos (by omega), bt_nat hlt]
    change (if (s[i].toNat : Int) = bt maxB (i : Int) then _ else some (decide ((s[i].toNat : Int) < bt maxB (i : Int)))) = _
    rw [hbm, wrap_nat i (by omega), ih (i + 1) k (by omega) (by omega)]
    have e1 := drop_at hlt
    have e2 := drop_at hlt2
    have hmem : ∀ (x : ByteArray) (j : Nat), (∀ b ∈ x.data.toList, Lx.isDig b = true) → ∀ b ∈ x.data.toList.drop j, Lx.isDig b = true := fun x j h b hb => h b (List.mem_of_mem_drop hb)
    have d1 := hmem s i hd
    have d2 := hmem maxB i maxB_dig
    rw [e1] at d1 ⊢
    rw [e2] at d2 ⊢
    by_cases heq : s[i] = maxB[i]
    · rw [if_pos (by rw [heq]), num_cons, num_cons, heq]
      have hll : (s.data.toList.drop (i + 1)).length = (maxB.data.toList.drop (i + 1)).length := by rw [List.length_drop, List.length_drop, hsl, hml, hs]
      rw [hll]
      congr 1
      rw [Bool.eq_iff_iff, decide_eq_true_eq, decide_eq_true_eq]
      omega
    · rw [if_neg (fun e => heq (UInt8.toNat_inj.1 (by omega))), num_cmp _ _ _ _ (by rw [List.length_drop, List.length_drop, hsl, hml, hs]) (d1 _ (by simp)) (d2 _ (by simp)) (fun c hc => d1 c (by simp [hc])) (fun c hc => d2 c (by simp [hc])) heq]
      congr 1
      rw [Bool.eq_iff_iff, decide_eq_true_eq, decide_eq_true_eq]
      omega

theorem small_j1 (s : ByteArray) (hd : ∀ b ∈ s.data.toList, Lx.isDig b = true) (h19 : s.size ≤ 19) (k : Nat) (hk : 30 ≤ k) : jointerref02_isSmall.j1 k s = some (decide (Lx.numD s.data.toList ≤ 9223372036854775808)) := by
  have hsl : s.data.toList.length = s.size := by simp
  obtain ⟨k, rfl⟩ : ∃ m, k = m + 1 := ⟨k - 1, by omega⟩
  rw [jointerref02_isSmall.j1]
  by_cases h : s.size = 19
  · have h1 := small_l1 s h hd 19 0 k (by omega) (by omega)
    rw [show ((0 : Nat) : Int) = (0 : Int) from rfl, List.drop_zero, List.drop_zero, maxB_num] at h1
    rw [if_pos (by omega), h1]
  · have h1 := num_lt _ hd
    have h2 : 10 ^ s.data.toList.length ≤ 10 ^ 18 := Nat.pow_le_pow_right (by omega) (by omega)
    have h3 : (10 : Nat) ^ 18 = 1000000000000000000 := by decide
    rw [if_neg (by omega), decide_eq_true (by omega), decide_eq_true (by omega)]

theorem small_l0 : ∀ (n : Nat) (s : ByteArray) (k : Nat), s.size = n → s.size ≤ 4000 → (∀ b ∈ s.data.toList, Lx.isDig b = true) → n + 40 ≤ k → jointerref02_isSmall.l0 k s = some (decide (Lx.numD s.data.toList ≤ 9223372036854775808)) := by
  intro n
  induction n with
  | zero =>
    intro s k hs h4 hd hk
    obtain ⟨k, rfl⟩ : ∃ m, k = m + 1 := ⟨k - 1, by omega⟩
    rw [jointerref02_isSmall.l0, if_neg (by omega), small_j1 s hd (by omega) k (by omega)]
  | succ n ih =>
    intro s k hs h4 hd hk
    have hsl : s.data.toList.length = s.size := by simp
    obtain ⟨k, rfl⟩ : ∃ m, k = m + 1 := ⟨k - 1, by omega⟩
    rw [jointerref02_isSmall.l0]
    by_cases h19 : s.size ≤ 19
    · rw [if_neg (by omega), small_j1 s hd h19 k (by omega)]
    · have h0 : 0 < s.size := by omega
      have hbt := bt_nat h0
      have e0 := drop_at h0
      rw [List.drop_zero] at e0
      rw [show ((0 : Nat) : Int) = (0 : Int) from rfl] at hbt
      rw [if_pos (by omega), if_pos (by omega), hbt]
      have hex : (s.extract 1 s.size).data.toList = s.data.toList.drop 1 := by
        rw [extract_list']
        show List.take _ _ = _
        rw [List.take_of_length_le (by rw [List.length_drop]; omega)]
      have hes : (s.extract 1 s.size).size = n := by
        have : (s.extract 1 s.size).data.toList.length = n := by rw [hex, List.length_drop]; omega
        simpa using this
      by_cases h48 : s[0].toNat = 48
      · rw [if_pos (by omega), if_pos (by omega), ih _ k hes (by omega) (by rw [hex]; exact fun b hb => hd b (List.mem_of_mem_drop hb)) (by omega), hex, e0, num_cons, h48]
        simp
      · have hdig := hd s[0] (by rw [e0]; simp)
        unfold Lx.isDig at hdig
        simp only [Bool.and_eq_true, decide_eq_true_eq] at hdig
        have hbig : 9223372036854775808 < Lx.numD s.data.toList := by
          rw [e0, num_cons]
          have h1 : 1 * 10 ^ (s.data.toList.drop (0 + 1)).length ≤ (s[0].toNat - 48) * 10 ^ (s.data.toList.drop (0 + 1)).length := Nat.mul_le_mul_right _ (by omega)
          have h2 : 10 ^ 19 ≤ 10 ^ (s.data.toList.drop (0 + 1)).length := Nat.pow_le_pow_right (by omega) (by rw [List.length_drop]; omega)
          have h3 : (10 : Nat) ^ 19 = 10000000000000000000 := by decide
          omega
        obtain ⟨k, rfl⟩ : ∃ m, k = m + 1 := ⟨k - 1, by omega⟩
        rw [if_neg (by omega), jointerref02_isSmall.j1, if_neg (by omega), decide_eq_false (by omega), decide_eq_false (by omega)]

theorem ref_small (s : ByteArray) (h4 : s.size ≤ 4000) (hd : ∀ b ∈ s.data.toList, Lx.isDig b = true) (k : Nat) (hk : 4040 ≤ k) : jointerref02_isSmall.f k s = some (decide (Lx.numD s.data.toList ≤ 9223372036854775808)) := by
  unfold jointerref02_isSmall.f
  exact small_l0 s.size s k rfl h4 hd (by omega)

theorem mark_step (l m : List UInt8) (ms : List (List UInt8)) (X : Option Bool) (h : X = some (ms.contains l)) : (if l = m then some true else X) = some ((m :: ms).contains l) := by
  rw [h, List.contains_cons]
  by_cases e : l = m
  · rw [if_pos e, e]; simp
  · have : (l == m) = false := beq_eq_false_iff_ne.mpr e
    rw [if_neg e, this, Bool.false_or]

theorem ref_mark (x : ByteArray) : jointerref02_isMark.f x = some (marksL.contains x.data.toList) := by
  unfold jointerref02_isMark.f marksL
  rw [Lib.toList_data]
  repeat' (first | exact mark_step _ _ _ _ rfl | refine mark_step _ _ _ _ ?_)


theorem all_bytes {p : UInt8 → Prop} (h : ∀ n : Fin 256, p (UInt8.ofNat n.val)) (b : UInt8) : p b := by
  have := h ⟨b.toNat, b.toNat_lt⟩
  simpa using this

theorem low_let (b : UInt8) : (!Lx.isLet b || Lx.isLet (Lx.low b)) = true := all_bytes (p := fun b => (!Lx.isLet b || Lx.isLet (Lx.low b)) = true) (by decide +kernel) b

theorem low_word (b : UInt8) : (!Lx.isWord b || (Lx.isWord (Lx.low b) && !(decide (65 ≤ (Lx.low b).toNat) && decide ((Lx.low b).toNat ≤ 90)))) = true := all_bytes (p := fun b => (!Lx.isWord b || (Lx.isWord (Lx.low b) && !(decide (65 ≤ (Lx.low b).toNat) && decide ((Lx.low b).toNat ≤ 90)))) = true) (by decide +kernel) b

theorem up_low (b : UInt8) : Lx.up (Lx.low b) = Lx.up b := all_bytes (p := fun b => Lx.up (Lx.low b) = Lx.up b) (by decide +kernel) b

theorem kw_ok : Lx.KwOk isKw := ⟨fun l h => kw_upper l h⟩

theorem kw_short : ∀ l : List UInt8, isKw l = true → l.length ≤ 4000 := by
  have h : kwsL.all (fun l => decide (l.length ≤ 4000)) = true := by decide +kernel
  intro l hl
  unfold isKw at hl
  rw [List.contains_iff_mem] at hl
  have := List.all_eq_true.1 h l hl
  simpa using this

theorem marks_ok : ∀ t ∈ marksL, ∀ R, Lx.Sep (5, t) R → Lx.skipC false (t ++ R) = 0 ∧ Lx.tokL isKw marksL (t ++ R) = .good 5 t t.length := by
  intro t ht R hS
  simp only [marksL, List.mem_cons, List.not_mem_nil, or_false] at ht
  rcases ht with rfl | rfl | rfl | rfl | rfl | rfl | rfl | rfl | rfl | rfl | rfl | rfl | rfl | rfl | rfl | rfl | rfl <;>
  rcases hS with rfl | ⟨_, h | h⟩ | ⟨c, r, rfl, rfl | rfl | rfl | rfl | rfl⟩ <;>
  first
  | exact ⟨rfl, rfl⟩
  | exact absurd h (by decide)

theorem tokL_ok {l : List UInt8} (h4 : l.length ≤ 4000) {kd : Int} {t : List UInt8} {n : Nat} (h : Lx.tokL isKw marksL l = .good kd t n) : Lx.tokOk isKw marksL (kd, t) = true := by
  unfold Lx.tokOk
  simp only [Bool.or_eq_true, Bool.and_eq_true, decide_eq_true_eq]
  cases l with
  | nil => cases h
  | cons b r =>
    unfold Lx.tokL at h
    simp only at h
    by_cases hL : Lx.isLet b = true
    · rw [if_pos hL] at h
      have hw : (b :: r).takeWhile Lx.isWord = b :: r.takeWhile Lx.isWord := by
        rw [List.takeWhile_cons, if_pos (by unfold Lx.isWord; rw [hL]; rfl)]
      have hall : ∀ c ∈ (b :: r).takeWhile Lx.isWord, Lx.isWord c = true := fun c hc => mem_takeWhile Lx.isWord _ c hc
      rw [hw] at h hall
      generalize r.takeWhile Lx.isWord = w at *
      by_cases hk : isKw ((b :: w).map Lx.up) = true
      · rw [if_pos hk] at h
        cases h
        exact .inl (.inl (.inl (.inl ⟨rfl, hk⟩)))
      · rw [if_neg hk] at h
        by_cases h20 : 20 < (b :: w).length
        · rw [if_pos h20] at h; cases h
        · rw [if_neg h20] at h
          cases h
          refine .inl (.inl (.inl (.inr ⟨rfl, ?_⟩)))
          unfold Lx.isNm
          have e1 : ((b :: w).map Lx.low).map Lx.up = (b :: w).map Lx.up := by
            rw [List.map_map]
            exact List.map_congr_left fun c _ => up_low c
          rw [e1]
          rw [Bool.not_eq_true] at hk
          rw [hk]
          have e2 : ((b :: w).map Lx.low).all (fun b => Lx.isWord b && !(decide (65 ≤ b.toNat) && decide (b.toNat ≤ 90))) = true := by
            rw [List.all_eq_true]
            intro c hc
            obtain ⟨d, hd, rfl⟩ := List.mem_map.1 hc
            have := low_word d
            rw [hall d hd] at this
            simpa using this
          rw [e2, List.length_map, decide_eq_true (by omega : (b :: w).length ≤ 20)]
          have e3 := low_let b
          rw [hL] at e3
          simpa using e3
    · rw [if_neg hL] at h
      by_cases hD : Lx.isDig b = true
      · rw [if_pos hD] at h
        have hw : (b :: r).takeWhile Lx.isDig = b :: r.takeWhile Lx.isDig := by rw [List.takeWhile_cons, if_pos hD]
        have hall : ∀ c ∈ (b :: r).takeWhile Lx.isDig, Lx.isDig c = true := fun c hc => mem_takeWhile Lx.isDig _ c hc
        have hlen : ((b :: r).takeWhile Lx.isDig).length ≤ (b :: r).length := (List.takeWhile_prefix _).length_le
        by_cases hn : 9223372036854775808 < Lx.numD ((b :: r).takeWhile Lx.isDig)
        · rw [if_pos hn] at h; cases h
        · rw [if_neg hn] at h
          split at h
          · cases h
          · cases h
            refine .inl (.inl (.inr ⟨rfl, ⟨⟨?_, ?_⟩, ?_⟩, ?_⟩))
            · rw [hw]; rfl
            · rw [List.all_eq_true]; exact hall
            · omega
            · omega
      · rw [if_neg hD] at h
        by_cases h39 : b.toNat = 39
        · rw [if_pos h39] at h
          cases hq : Lx.quo r with
          | none => rw [hq] at h; cases h
          | some x =>
            rw [hq] at h
            simp only at h
            by_cases h100 : 100 < x.1.length
            · rw [if_pos h100] at h; cases h
            · rw [if_neg h100] at h
              cases h
              exact .inl (.inr ⟨rfl, by omega⟩)
        · rw [if_neg h39] at h
          cases hf : marksL.find? (fun m => m.isPrefixOf (b :: r)) with
          | none => rw [hf] at h; cases h
          | some m =>
            rw [hf] at h
            cases h
            exact .inr ⟨rfl, by rw [List.contains_iff_mem]; exact List.mem_of_find?_eq_some hf⟩

theorem toks_ok (k : Nat) : ∀ (p : Nat) (l : List UInt8) (ts : List (Int × List UInt8 × Nat)), l.length ≤ 4000 → Lx.toks isKw marksL k p l = .good ts → ∀ x ∈ ts, Lx.tokOk isKw marksL (x.1, x.2.1) = true := by
  induction k with
  | zero => intro p l ts h4 h; simp [Lx.toks] at h; subst h; simp
  | succ k ih =>
    intro p l ts h4 h
    rw [Lx.toks] at h
    cases hl : l.drop (Lx.skipC false l) with
    | nil => rw [hl] at h; simp at h; subst h; simp
    | cons b r =>
      rw [hl] at h
      simp only at h
      have hlen : (b :: r).length ≤ 4000 := by rw [← hl, List.length_drop]; omega
      cases ht : Lx.tokL isKw marksL (b :: r) with
      | bad e => rw [ht] at h; cases h
      | good kd t n =>
        rw [ht] at h
        simp only at h
        cases hr : Lx.toks isKw marksL k (p + Lx.skipC false l + n) ((b :: r).drop n) with
        | bad a e => rw [hr] at h; cases h
        | good ts' =>
          rw [hr] at h
          simp only [Lx.Tks.cons] at h
          cases h
          intro x hx
          rcases List.mem_cons.1 hx with rfl | hx
          · exact tokL_ok hlen ht
          · exact ih _ _ _ (by rw [List.length_drop]; omega) hr x hx

/-- A token's text is not long. -/
theorem ok_len {x : Int × List UInt8} (h : Lx.tokOk isKw marksL x = true) : x.2.length ≤ 4000 := by
  unfold Lx.tokOk at h
  simp only [Bool.or_eq_true, Bool.and_eq_true, decide_eq_true_eq] at h
  rcases h with (((⟨_, h⟩ | ⟨_, h⟩) | ⟨_, h⟩) | ⟨_, h⟩) | ⟨_, h⟩
  · exact kw_short _ h
  · have := (Lx.isNm_parts h).2.1; omega
  · exact h.1.2
  · omega
  · have hm : ∀ m ∈ marksL, m.length ≤ 4000 := by decide
    exact hm _ (List.contains_iff_mem.1 h)

def pr (x : S33) : Int × List UInt8 := (x.f0, x.f1.data.toList)

theorem txt_written (x : S33) : (txtB x).data.toList = Lx.written (pr x) := by
  unfold txtB Lx.written pr
  by_cases h : x.f0 = 4
  · rw [if_pos h, if_pos h, PQ.replaceAll_qt, ByteArray.data_append, ByteArray.data_append]
    simp
  · rw [if_neg h, if_neg h]

theorem ok_valid (x : S33) (h : Lx.tokOk isKw marksL (pr x) = true) : okP x = true := by
  have hsl : x.f1.data.toList.length = x.f1.size := by simp
  have h4 := ok_len h
  obtain ⟨h1, h2⟩ := Lx.tok_written kw_ok marks_ok (pr x) h [] (.inl rfl)
  unfold okP validR
  by_cases hk : x.f0 = 4
  · rw [if_pos hk]
    unfold Lx.tokOk pr at h
    simp [hk] at h
    simpa using h
  · have hw : Lx.written (pr x) = x.f1.data.toList := by unfold Lx.written pr; rw [if_neg hk]
    rw [List.append_nil, hw] at h1 h2
    rw [if_neg hk]
    have h0 : 0 < x.f1.size := by
      rw [← hsl]
      cases hl : x.f1.data.toList with
      | nil => rw [hl] at h2; cases h2
      | cons b r => exact Nat.succ_pos _
    have h44 : ¬ 4000 < x.f1.size := by unfold pr at h4; simp only at h4; omega
    rw [dif_pos h0, if_neg h44]
    have e0 := drop_at h0
    rw [List.drop_zero] at e0
    have hc : cls x.f1[0] ≠ 1 := by
      intro hc
      have hb := ((cls_let x.f1[0]).2.2.2).1 hc
      rw [e0, Lx.skipC, if_pos hb] at h1
      omega
    rw [if_neg hc, h2]
    show (decide (x.f1.data.toList.length = x.f1.size) && decide (x.f0 = x.f0) && decide (x.f1.data.toList = x.f1.data.toList)) = true
    rw [hsl]
    simp

theorem contains_marks : ∀ m ∈ marksL, Lib.contains [44, 41, 46, 59] m = (decide (m = [44]) || decide (m = [41]) || decide (m = [46]) || decide (m = [59])) := by decide +kernel

theorem mark_text {x : S33} (h : Lx.tokOk isKw marksL (pr x) = true) (h5 : x.f0 = 5) : x.f1.data.toList ∈ marksL := by
  unfold Lx.tokOk pr at h
  simp [h5] at h
  exact h

theorem join_same : ∀ (l : List S33) (g : Bool) (a : Option (Int × List UInt8)), (∀ x ∈ l, Lx.tokOk isKw marksL (pr x) = true) →
    (match a with | none => g = true | some a => g = (decide (a.1 = 5) && (decide (a.2 = [40]) || decide (a.2 = [46])))) → joinP g l = Lx.joinF a (l.map pr)
  | [], g, a, _, _ => by cases a <;> rfl
  | x :: l, g, a, hall, hg => by
    have hx := hall x (by simp)
    have hgl : glueP x = (decide ((pr x).1 = 5) && (decide ((pr x).2 = [40]) || decide ((pr x).2 = [46]))) := by
      unfold glueP
      by_cases h5 : x.f0 = 5
      · have : (txtB x).data.toList = (pr x).2 := by unfold txtB pr; rw [if_neg (by omega)]
        rw [this]; rfl
      · rw [decide_eq_false h5]
        show _ = (decide (x.f0 = 5) && _)
        rw [decide_eq_false h5]; rfl
    have ih := join_same l (glueP x) (some (pr x)) (fun y hy => hall y (by simp [hy])) hgl
    rw [joinP, ih, List.map_cons, txt_written]
    cases a with
    | none =>
      rw [Lx.joinF]
      have : sepP g x = false := by unfold sepP; rw [show g = true from hg]; rfl
      rw [this, if_neg (by decide)]
      simp
    | some a =>
      rw [Lx.joinF]
      have hs : sepP g x = !Lx.near a (pr x) := by
        unfold sepP Lx.near
        rw [show g = (decide (a.1 = 5) && (decide (a.2 = [40]) || decide (a.2 = [46]))) from hg, Bool.not_or]
        congr 1
        show (!(decide (x.f0 = 5) && _)) = !(decide (x.f0 = 5) && _)
        by_cases h5 : x.f0 = 5
        · have : (txtB x).data.toList = (pr x).2 := by unfold txtB pr; rw [if_neg (by omega)]
          rw [this]
          exact congrArg (fun q => !(decide (x.f0 = 5) && q)) (contains_marks _ (mark_text hx h5))
        · rw [decide_eq_false h5]; rfl
      rw [hs]
      cases Lx.near a (pr x) <;> simp

theorem joinF_len : ∀ (l : List (Int × List UInt8)) (a : Option (Int × List UInt8)), (∀ x ∈ l, Lx.tokOk isKw marksL x = true) → (Lx.joinF a l).length ≤ l.length * 9000
  | [], a, _ => by cases a <;> simp [Lx.joinF]
  | x :: l, a, hall => by
    have ih := joinF_len l (some x) (fun y hy => hall y (by simp [hy]))
    have h4 := ok_len (hall x (by simp))
    have hw : (Lx.written x).length ≤ 8002 := by
      unfold Lx.written
      split
      · have := PQ.qt_len2 x.2
        simp; omega
      · omega
    have hj : (Lx.joinF a (x :: l)).length ≤ 1 + (Lx.written x).length + (Lx.joinF (some x) l).length := by
      cases a with
      | none => rw [Lx.joinF, List.length_append]; omega
      | some a =>
        rw [Lx.joinF, List.length_append, List.length_append]
        split <;> simp <;> omega
    rw [List.length_cons]
    omega

theorem resP_same (l m : List S33) (h : l.map pr = m.map pr) : resP l = resP m := by
  have h1 : ∀ l : List S33, l.all okP = (l.map pr).all (fun q => validR q.1 ⟨q.2.toArray⟩) := by
    intro l
    rw [List.all_map]
    congr 1
  have h2 : ∀ (l m : List S33) (g : Bool), l.map pr = m.map pr → joinP g l = joinP g m := by
    intro l
    induction l with
    | nil => intro m g h; cases m with | nil => rfl | cons => simp at h
    | cons x l ih =>
      intro m g h
      cases m with
      | nil => simp at h
      | cons y m =>
        rw [List.map_cons, List.map_cons] at h
        obtain ⟨e1, e2⟩ := List.cons.inj h
        unfold pr at e1
        have f0 : x.f0 = y.f0 := congrArg Prod.fst e1
        have f1 : x.f1 = y.f1 := by
          apply ByteArray.ext
          exact Array.toList_inj.1 (congrArg Prod.snd e1)
        have ft : txtB x = txtB y := by unfold txtB; rw [f0, f1]
        have fs : sepP g x = sepP g y := by unfold sepP; rw [f0, ft]
        have fg : glueP x = glueP y := by unfold glueP; rw [f0, ft]
        rw [joinP, joinP, fs, ft, fg, ih m _ e2]
  unfold resP
  rw [h1 l, h1 m, h, h2 l m true h]

theorem toks_bad (k : Nat) : ∀ (p : Nat) (l : List UInt8) (a : Nat) (e : Int), Lx.toks isKw marksL k p l = .bad a e → e ≠ 0 := by
  induction k with
  | zero => intro p l a e h; simp [Lx.toks] at h
  | succ k ih =>
    intro p l a e h
    rw [Lx.toks] at h
    cases hl : l.drop (Lx.skipC false l) with
    | nil => rw [hl] at h; simp at h
    | cons b r =>
      rw [hl] at h
      simp only at h
      cases ht : Lx.tokL isKw marksL (b :: r) with
      | bad e' => rw [ht] at h; cases h; exact tokL_bad ht
      | good kd t n =>
        rw [ht] at h
        simp only at h
        cases hr : Lx.toks isKw marksL k (p + Lx.skipC false l + n) ((b :: r).drop n) with
        | bad a' e' => rw [hr] at h; simp only [Lx.Tks.cons] at h; cases h; exact ih _ _ _ _ hr
        | good ts' => rw [hr] at h; simp only [Lx.Tks.cons] at h; cases h

end Go.Proofs.YtaibkpbiccibjaaGreatDoor.PAll
