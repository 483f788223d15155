import Derived.Test.YthgfdnffnbclpaaGreatDoorSQG08
import Derived.Test.YthgfdnffnbclpaaGreatDoorSQG09
import Derived.Test.YthgfdnffnbclpaaGreatDoorSQG06
import Derived.Test.YthgfdnffnbclpaaGreatDoorSQG07
set_option linter.unusedVariables false
set_option linter.unusedSimpArgs false
namespace Go.Proofs.YthgfdnffnbclpaaGreatDoor.PAll
open Go.RowKit Go.Proofs.YthgfdnffnbclpaaGreatDoorW.PrintWords Go.Proofs.YthgfdnffnbclpaaGreatDoorW.PrintLast Go.Proofs.YthgfdnffnbclpaaGreatDoorW.PrintMore
def cls (b : UInt8) : Int := if b = 32 ∨ b = 9 ∨ b = 10 ∨ b = 13 then 1 else (if b = 95 then 2 else (if b = 39 then 4 else (if (65 ≤ b ∧ b ≤ 90) ∨ (97 ≤ b ∧ b ≤ 122) then 2 else (if 48 ≤ b ∧ b ≤ 57 then 3 else 0))))
theorem cls_f (b : UInt8) : lex_class.f 5 b.toNat = some (cls b) := by
 have h : ∀ n : Fin 256, lex_class.f 5 ((UInt8.ofNat n.val).toNat : Nat) = some (cls (UInt8.ofNat n.val)) := by decide +kernel
 have := h ⟨b.toNat, b.toNat_lt⟩
 simpa using this
theorem drop_at {s : ByteArray} {k : Nat} (h : k < s.size) : s.data.toList.drop k = s[k] :: s.data.toList.drop (k + 1) := by
 have h' : k < s.data.toList.length := by simpa using h
 rw [List.drop_eq_getElem_cons h']
 rfl
theorem upper_up (b : UInt8) : Lib.upperB b = Lx.up b := by
 have h : ∀ n : Fin 256, Lib.upperB (UInt8.ofNat n.val) = Lx.up (UInt8.ofNat n.val) := by decide +kernel
 have := h ⟨b.toNat, b.toNat_lt⟩
 simpa using this
theorem extract_list' (s : ByteArray) (a b : Nat) : s.extract a b = ⟨((s.data.toList.drop a).take (b - a)).toArray⟩ := by
 apply ByteArray.ext
 rw [ByteArray.data_extract]
 apply Array.toList_inj.mp
 simp
theorem wrap_nat (n : Nat) (h : n < 4611686018427387904) : wrap64 ((n : Int) + 1) = ((n + 1 : Nat) : Int) := by unfold wrap64; omega
theorem bt_nat {s : ByteArray} {i : Nat} (h : i < s.size) : bt s (i : Int) = (s[i].toNat : Int) := by
 unfold bt
 simp [h]
theorem ref_letter (b : UInt8) : jointerref02_isLetter.f b.toNat = some (Lx.isLet b) := by
 have h : ∀ n : Fin 256, jointerref02_isLetter.f ((UInt8.ofNat n.val).toNat : Nat) = some (Lx.isLet (UInt8.ofNat n.val)) := by decide +kernel
 have := h ⟨b.toNat, b.toNat_lt⟩
 simpa using this
theorem ref_digit (b : UInt8) : jointerref02_isDigit.f b.toNat = some (Lx.isDig b) := by
 have h : ∀ n : Fin 256, jointerref02_isDigit.f ((UInt8.ofNat n.val).toNat : Nat) = some (Lx.isDig (UInt8.ofNat n.val)) := by decide +kernel
 have := h ⟨b.toNat, b.toNat_lt⟩
 simpa using this
theorem kw_upper : ∀ l : List UInt8, isKw l = true → l ≠ [] ∧ ∀ b ∈ l, 65 ≤ b.toNat ∧ b.toNat ≤ 90 := by
 have h : kwsL.all (fun l => decide (l ≠ []) && l.all (fun b => decide (65 ≤ b.toNat) && decide (b.toNat ≤ 90))) = true := by decide +kernel
 intro l hl
 unfold isKw at hl
 rw [List.contains_iff_mem] at hl
 have := List.all_eq_true.1 h l hl
 simp only [Bool.and_eq_true, decide_eq_true_eq, List.all_eq_true] at this
 exact this
def runAt (i : Nat) : List UInt8 := (kwL.drop (i + 1)).takeWhile (fun b => b != 32)
theorem kw_runs : ∀ i : Fin 372, kwL.drop i.val = 32 :: kwL.drop (i.val + 1) → runAt i.val = [] ∨ isKw (runAt i.val) = true := by decide +kernel
theorem kw_found : ∀ w ∈ kwsL, ∃ i : Fin 372, i.val + w.length + 2 ≤ 372 ∧ (kwL.drop i.val).take (w.length + 2) = 32 :: (w ++ [32]) := by decide +kernel
def kwM' (s : List UInt8) (i : Nat) : Bool := (kwL.drop i).take (s.length + 2) == 32 :: (s ++ [32])
theorem kw_any (s : List UInt8) (hne : s ≠ []) (hns : ∀ b ∈ s, b ≠ 32) : ((List.range (371 - s.length)).any (kwM' s)) = isKw s := by
 rw [Bool.eq_iff_iff, List.any_eq_true]
 constructor
 ·rintro ⟨i, hi, hm⟩
  rw [List.mem_range] at hi
  unfold kwM' at hm
  rw [beq_iff_eq] at hm
  have hpre : 32 :: (s ++ [32]) <+: kwL.drop i := by rw [← hm]; exact List.take_prefix _ _
  obtain ⟨R, hR⟩ := hpre
  have hd : kwL.drop (i + 1) = s ++ 32 :: R := by
   rw [← List.drop_drop, ← hR]
   simp
  have hrun : runAt i = s := by
   unfold runAt
   rw [hd]
   exact Lx.takeWhile_all s (32 :: R) (fun b hb => by simpa using hns b hb) (by rfl)
  rcases kw_runs ⟨i, by omega⟩ (by rw [← hR, hd]; simp) with h | h
  ·rw [hrun] at h; exact absurd h hne
  ·rw [hrun] at h; exact h
 ·intro h
  unfold isKw at h
  rw [List.contains_iff_mem] at h
  obtain ⟨i, hi, hm⟩ := kw_found s h
  exact ⟨i.val, List.mem_range.2 (by omega), by unfold kwM'; rw [beq_iff_eq]; exact hm⟩
theorem ref_kw_l1 (s : ByteArray) (hs : s.size ≤ 140737488351232) : ∀ (d i k : Nat), i + d + s.size = 371 ∨ (d = 0 ∧ 371 ≤ i + s.size) → i ≤ 372 → d < k → jointerref02_IsKeyword.l1 k s (i : Int) = some ((List.range d).any (fun q => kwM' s.data.toList (i + q))) := by
 have hsl : s.data.toList.length = s.size := by simp
 intro d
 induction d with
 | zero =>
  intro i k hi h372 hk
  obtain ⟨k, rfl⟩ : ∃ m, k = m + 1 := ⟨k - 1, by omega⟩
  have hw : wrap64 ((wrap64 ((i : Int) + (s.size : Int))) + 2) = ((i + s.size + 2 : Nat) : Int) := by unfold wrap64; omega
  rw [jointerref02_IsKeyword.l1, hw, if_neg (by omega)]
  rfl
 | succ d ih =>
  intro i k hi h372 hk
  obtain ⟨k, rfl⟩ : ∃ m, k = m + 1 := ⟨k - 1, by omega⟩
  have hi' : i + (d + 1) + s.size = 371 := by omega
  have hw : wrap64 ((wrap64 ((i : Int) + (s.size : Int))) + 2) = ((i + s.size + 2 : Nat) : Int) := by unfold wrap64; omega
  have hz : ((⟨#[32]⟩ : ByteArray) ++ s).size = 1 + s.size := by rw [ByteArray.size_append]; rfl
  rw [jointerref02_IsKeyword.l1, hw, if_pos (by omega), if_pos (by omega), if_pos (by omega), if_pos (by omega), if_pos (by omega)]
  rw [show ((i : Nat) : Int).toNat = i by omega, show ((i + s.size + 2 : Nat) : Int).toNat = i + s.size + 2 by omega]
  have hl : (kwB.extract i (i + s.size + 2)).toList = (kwL.drop i).take (s.data.toList.length + 2) := by
   rw [Lib.toList_data, extract_list', hsl, show i + s.size + 2 - i = s.size + 2 by omega]
   rfl
  have hr : (((⟨#[32]⟩ : ByteArray) ++ s) ++ (⟨#[32]⟩ : ByteArray)).toList = 32 :: (s.data.toList ++ [32]) := by
   rw [Lib.toList_data, ByteArray.data_append, ByteArray.data_append]
   simp
  rw [hl, hr, List.range_succ_eq_map, List.any_cons, List.any_map]
  by_cases hm : (kwL.drop i).take (s.data.toList.length + 2) = 32 :: (s.data.toList ++ [32])
  ·have : kwM' s.data.toList (i + 0) = true := by unfold kwM'; rw [beq_iff_eq]; exact hm
   rw [if_pos hm, this, Bool.true_or]
  ·have : kwM' s.data.toList (i + 0) = false := by unfold kwM'; rw [beq_eq_false_iff_ne]; exact hm
   rw [if_neg hm, this, Bool.false_or, wrap_nat i (by omega), ih (i + 1) k (by omega) (by omega) (by omega)]
   congr 2
   funext q
   rw [Function.comp, show i + 1 + q = i + (q + 1) by omega]
theorem ref_kw_l0 (s : ByteArray) (hs : s.size ≤ 140737488351232) (hne : s.data.toList ≠ []) : ∀ (d i k : Nat), i + d = s.size → d + 400 ≤ k → (∀ j (hj : j < s.size), j < i → 65 ≤ s[j].toNat ∧ s[j].toNat ≤ 90) → jointerref02_IsKeyword.l0 k s (i : Int) = some (isKw s.data.toList) := by
 have hsl : s.data.toList.length = s.size := by simp
 intro d
 induction d with
 | zero =>
  intro i k hi hk hup
  obtain ⟨k, rfl⟩ : ∃ m, k = m + 1 := ⟨k - 1, by omega⟩
  rw [jointerref02_IsKeyword.l0, if_neg (by omega)]
  have hns : ∀ b ∈ s.data.toList, b ≠ 32 := by
   intro b hb e
   obtain ⟨j, hj, rfl⟩ := List.getElem_of_mem hb
   have hj' : j < s.size := by simpa using hj
   have := hup j hj' (by omega)
   have e2 : s[j] = 32 := e
   rw [e2] at this
   exact absurd this.1 (by decide)
  have h1 := ref_kw_l1 s hs (371 - s.size) 0 k (by omega) (by omega) (by omega)
  rw [show ((0 : Nat) : Int) = (0 : Int) from rfl] at h1
  rw [h1, ← kw_any s.data.toList hne hns, hsl]
  congr 2
  funext q
  rw [Nat.zero_add]
 | succ d ih =>
  intro i k hi hk hup
  obtain ⟨k, rfl⟩ : ∃ m, k = m + 1 := ⟨k - 1, by omega⟩
  have hlt : i < s.size := by omega
  have hmem : s[i] ∈ s.data.toList := by
   have h' : i < s.data.toList.length := by omega
   have := List.getElem_mem h'
   exact this
  rw [jointerref02_IsKeyword.l0, if_pos (by omega), if_pos (by omega), bt_nat hlt]
  by_cases h1 : s[i].toNat < 65
  ·have hk0 : isKw s.data.toList = false := by
    rw [← Bool.not_eq_true]
    intro h
    have := (kw_upper _ h).2 _ hmem
    omega
   rw [if_pos (by omega), hk0]
  ·rw [if_neg (by omega)]
   by_cases h2 : 90 < s[i].toNat
   ·have hk0 : isKw s.data.toList = false := by
     rw [← Bool.not_eq_true]
     intro h
     have := (kw_upper _ h).2 _ hmem
     omega
    rw [if_pos (by omega), hk0]
   ·rw [if_neg (by omega), wrap_nat i (by omega)]
    refine ih (i + 1) k (by omega) (by omega) ?_
    intro j hj hji
    rcases Nat.lt_or_ge j i with h | h
    ·exact hup j hj h
    ·obtain rfl : j = i := by omega
     omega
theorem ref_kw (s : ByteArray) (hs : s.size ≤ 140737488351232) (k : Nat) (hk : s.size + 400 ≤ k) : jointerref02_IsKeyword.f k s = some (isKw s.data.toList) := by
 unfold jointerref02_IsKeyword.f
 by_cases he : s.toList = ([] : List UInt8)
 ·rw [if_pos he]
  rw [Lib.toList_data] at he
  rw [he]
  rfl
 ·rw [if_neg he]
  rw [Lib.toList_data] at he
  exact ref_kw_l0 s hs he s.size 0 k (by omega) (by omega) (fun j hj h => by omega)
def nu (b : UInt8) : Bool := !(decide (65 ≤ b.toNat) && decide (b.toNat ≤ 90))
theorem byte_all {p : UInt8 → Prop} (h : ∀ n : Fin 256, p (UInt8.ofNat n.val)) (b : UInt8) : p b := by
 have := h ⟨b.toNat, b.toNat_lt⟩
 simpa using this
theorem clsL (b : UInt8) : decide (cls b = 2) = Lx.isLet b := byte_all (p := fun b => decide (cls b = 2) = Lx.isLet b) (by decide +kernel) b
theorem clsD (b : UInt8) : decide (cls b = 3) = Lx.isDig b := byte_all (p := fun b => decide (cls b = 3) = Lx.isDig b) (by decide +kernel) b
theorem low_nu (b : UInt8) : decide (Lib.lowerB b = b) = nu b := byte_all (p := fun b => decide (Lib.lowerB b = b) = nu b) (by decide +kernel) b
theorem let_dig (b : UInt8) : (Lx.isLet b && Lx.isDig b) = false := byte_all (p := fun b => (Lx.isLet b && Lx.isDig b) = false) (by decide +kernel) b
theorem dig_nu (b : UInt8) : (Lx.isDig b && !nu b) = false := byte_all (p := fun b => (Lx.isDig b && !nu b) = false) (by decide +kernel) b
theorem word_low (b : UInt8) : (Lx.isWord b && !decide (b.toNat < 128)) = false := byte_all (p := fun b => (Lx.isWord b && !decide (b.toNat < 128)) = false) (by decide +kernel) b
theorem cls_k (b : UInt8) : ∀ k, 5 ≤ k → lex_class.f k b.toNat = some (cls b)
 | 0, h => by omega
 | k + 1, h => by
  by_cases h5 : k + 1 = 5
  ·rw [h5]; exact cls_f b
  ·exact lex_class.mono _ k _ (cls_k b k (by omega))
theorem map_nu (l : List UInt8) : decide (Lib.toLowerA l = l) = l.all nu := by
 induction l with
 | nil => rfl
 | cons b r ih =>
  rw [List.all_cons, ← ih, ← low_nu]
  unfold Lib.toLowerA
  rw [List.map_cons]
  by_cases h1 : Lib.lowerB b = b
  ·by_cases h2 : r.map Lib.lowerB = r
   ·simp [h1, h2]
   ·simp [h1, h2]
  ·simp [h1]
theorem up_map (l : List UInt8) : Lib.toUpperA l = l.map Lx.up := by unfold Lib.toUpperA; exact List.map_congr_left fun b _ => upper_up b
theorem name_l0 (s : ByteArray) (hs : s.size ≤ 20) : ∀ (d i k : Nat), i + d = s.size → d + 6 ≤ k → (∀ b ∈ s.data.toList.take i, Lx.isWord b = true) →
  lex_IsName.l0 k s (s.size : Int) (i : Int) = some ((s.data.toList.drop i).all Lx.isWord && s.data.toList.all nu && !isKw (s.data.toList.map Lx.up)) := by
 have hsl : s.data.toList.length = s.size := by simp
 intro d
 induction d with
 | zero =>
  intro i k hi hk hw
  obtain ⟨k, rfl⟩ : ∃ m, k = m + 1 := ⟨k - 1, by omega⟩
  have e : s.data.toList.drop i = [] := List.drop_eq_nil_of_le (by omega)
  rw [List.take_of_length_le (by omega)] at hw
  have ha : ascii s = true := by
   unfold ascii
   rw [List.all_eq_true]
   intro b hb
   have h1 := word_low b
   rw [hw b hb, Bool.true_and] at h1
   simpa using h1
  rw [lex_IsName.l0, if_neg (by omega), strings_ToLower.f, if_pos ⟨by omega, ha⟩, Option.bind_some, e, Lib.toList_data, Lib.toList_data, ← map_nu]
  by_cases hl : Lib.toLowerA s.data.toList = s.data.toList
  ·rw [if_pos (by show s.data.toList = Lib.toLowerA s.data.toList; exact hl.symm), strings_ToUpper.f, if_pos ⟨by omega, ha⟩, Option.bind_some, lex_IsKeyword.f, Option.bind_some, decide_eq_true hl]
   show some (!isKw (Lib.toUpperA s.data.toList)) = _
   rw [up_map]
   rfl
  ·rw [if_neg (by show ¬ s.data.toList = Lib.toLowerA s.data.toList; exact fun h => hl h.symm), decide_eq_false hl]
   rfl
 | succ d ih =>
  intro i k hi hk hw
  obtain ⟨k, rfl⟩ : ∃ m, k = m + 1 := ⟨k - 1, by omega⟩
  have hlt : i < s.size := by omega
  rw [lex_IsName.l0, if_pos (by omega), if_pos (by omega), if_pos (by omega), bt_nat hlt, cls_k _ k (by omega), Option.bind_some, wrap_nat i (by omega), drop_at hlt, List.all_cons]
  have hnext : Lx.isWord s[i] = true → ∀ b ∈ s.data.toList.take (i + 1), Lx.isWord b = true := by
   intro h b hb
   rw [List.take_add_one, List.getElem?_eq_getElem (by omega : i < s.data.toList.length)] at hb
   rcases List.mem_append.1 hb with h1 | h1
   ·exact hw b h1
   ·have : b = s[i] := by simp at h1; exact h1
    rw [this]; exact h
  by_cases h2 : cls s[i] = 2
  ·have hW : Lx.isWord s[i] = true := by unfold Lx.isWord; rw [← clsL, decide_eq_true h2]; rfl
   rw [if_pos h2, ih (i + 1) k (by omega) (by omega) (hnext hW), hW, Bool.true_and]
  ·by_cases h3 : cls s[i] = 3
   ·have hW : Lx.isWord s[i] = true := by unfold Lx.isWord; rw [← clsD, decide_eq_true h3, Bool.or_true]
    rw [if_neg h2, if_pos h3, ih (i + 1) k (by omega) (by omega) (hnext hW), hW, Bool.true_and]
   ·have hW : Lx.isWord s[i] = false := by unfold Lx.isWord; rw [← clsL, ← clsD, decide_eq_false h2, decide_eq_false h3]; rfl
    rw [if_neg h2, if_neg h3, hW]
    rfl
theorem ref_name_l0 (s : ByteArray) (hs : s.size ≤ 20) : ∀ (d i k : Nat), i + d = s.size → d + 430 ≤ k →
  jointerref02_IsName.l0 k s (i : Int) = some ((s.data.toList.drop i).all (fun b => Lx.isWord b && nu b) && !isKw (s.data.toList.map Lx.up)) := by
 have hsl : s.data.toList.length = s.size := by simp
 intro d
 induction d with
 | zero =>
  intro i k hi hk
  obtain ⟨k, rfl⟩ : ∃ m, k = m + 1 := ⟨k - 1, by omega⟩
  have e : s.data.toList.drop i = [] := List.drop_eq_nil_of_le (by omega)
  have hz : (⟨(s.data.toList.map (foldB true)).toArray⟩ : ByteArray).size = s.size := by
   show (s.data.toList.map (foldB true)).toArray.size = _
   rw [List.size_toArray, List.length_map, hsl]
  rw [jointerref02_IsName.l0, if_neg (by omega), jointerref02_folded.f, if_pos (by omega), Option.bind_some, ref_kw _ (by omega) k (by omega), Option.bind_some, e]
  rfl
 | succ d ih =>
  intro i k hi hk
  obtain ⟨k, rfl⟩ : ∃ m, k = m + 1 := ⟨k - 1, by omega⟩
  have hlt : i < s.size := by omega
  rw [jointerref02_IsName.l0, if_pos (by omega), if_pos (by omega), bt_nat hlt, ref_letter, Option.bind_some, wrap_nat i (by omega), drop_at hlt, List.all_cons, ih (i + 1) k (by omega) (by omega), ref_digit]
  simp only [Option.bind_some]
  have hN : nu s[i] = !(decide (65 ≤ s[i].toNat) && decide (s[i].toNat ≤ 90)) := rfl
  by_cases hL : Lx.isLet s[i] = true
  ·have hW : Lx.isWord s[i] = true := by unfold Lx.isWord; rw [hL]; rfl
   rw [if_pos hL, hW, Bool.true_and]
   by_cases h1 : 65 ≤ s[i].toNat
   ·rw [if_pos (by omega)]
    by_cases h2 : s[i].toNat ≤ 90
    ·rw [if_pos (by omega), hN, decide_eq_true h1, decide_eq_true h2]; rfl
    ·rw [if_neg (by omega), hN, decide_eq_true h1, decide_eq_false h2]; rfl
   ·rw [if_neg (by omega), hN, decide_eq_false h1]; rfl
  ·rw [if_neg hL]
   by_cases hD : Lx.isDig s[i] = true
   ·have hW : Lx.isWord s[i] = true := by unfold Lx.isWord; rw [hD, Bool.or_true]
    have hn : nu s[i] = true := by
     have := dig_nu s[i]
     rw [hD, Bool.true_and] at this
     simpa using this
    rw [if_pos hD, hW, hn, Bool.true_and]
    rw [hN] at hn
    by_cases h1 : 65 ≤ s[i].toNat
    ·rw [if_pos (by omega)]
     by_cases h2 : s[i].toNat ≤ 90
     ·rw [decide_eq_true h1, decide_eq_true h2] at hn; exact absurd hn (by decide)
     ·rw [if_neg (by omega)]; rfl
    ·rw [if_neg (by omega)]; rfl
   ·have hW : Lx.isWord s[i] = false := by
     unfold Lx.isWord
     rw [Bool.not_eq_true] at hL hD
     rw [hL, hD]; rfl
    rw [if_neg hD, hW]
    rfl
theorem isNm_eq (b : UInt8) (r : List UInt8) : Lx.isNm isKw (b :: r) = (decide ((b :: r).length ≤ 20) && Lx.isLet b && ((b :: r).all Lx.isWord && (b :: r).all nu) && !isKw ((b :: r).map Lx.up)) := by
 have h : ∀ l : List UInt8, l.all (fun b => Lx.isWord b && !(decide (65 ≤ b.toNat) && decide (b.toNat ≤ 90))) = (l.all Lx.isWord && l.all nu) := by
  intro l
  induction l with
  | nil => rfl
  | cons c t ih =>
   rw [List.all_cons, List.all_cons, List.all_cons, ih]
   show (Lx.isWord c && nu c && _) = _
   cases Lx.isWord c <;> cases nu c <;> simp
 unfold Lx.isNm
 rw [h]
 simp
theorem name_is (s : ByteArray) (k : Nat) (hk : 40 ≤ k) : lex_IsName.f k s = some (Lx.isNm isKw s.data.toList) := by
 have hsl : s.data.toList.length = s.size := by simp
 unfold lex_IsName.f
 rw [Lib.toList_data]
 obtain ⟨k, rfl⟩ : ∃ m, k = m + 1 := ⟨k - 1, by omega⟩
 cases hl : s.data.toList with
 | nil => rw [if_pos rfl, lex_IsName.j0, if_pos rfl]; rfl
 | cons b r =>
  have h0 : 0 < s.size := by rw [← hsl, hl]; exact Nat.succ_pos _
  rw [if_neg (by simp)]
  by_cases h20 : s.size ≤ 20
  ·have hb : s[0] = b := by
    have := drop_at h0
    rw [List.drop_zero, hl] at this
    exact (List.cons.inj this).1.symm
   have hbt := bt_nat h0
   rw [show ((0 : Nat) : Int) = (0 : Int) from rfl, hb] at hbt
   rw [if_neg (by omega), if_pos (by omega), hbt, cls_k _ _ (by omega), Option.bind_some, lex_IsName.j0, isNm_eq]
   have hL := clsL b
   have h1 := name_l0 s h20 s.size 0 k (by omega) (by omega) (by simp)
   rw [show ((0 : Nat) : Int) = (0 : Int) from rfl, List.drop_zero, hl] at h1
   have hlen : (b :: r).length ≤ 20 := by rw [← hl, hsl]; exact h20
   rw [decide_eq_true hlen]
   by_cases h2 : cls b = 2
   ·rw [if_neg (by simp [h2]), h1, ← hL, decide_eq_true h2]
    rfl
   ·rw [if_pos (by simpa using h2), ← hL, decide_eq_false h2]
    rfl
  ·have hlen : ¬ (b :: r).length ≤ 20 := by rw [← hl, hsl]; exact h20
   rw [if_pos (by omega), lex_IsName.j0, if_pos rfl, isNm_eq, decide_eq_false hlen]
   rfl
theorem ref_name_is (s : ByteArray) (k : Nat) (hk : 460 ≤ k) : jointerref02_IsName.f k s = some (Lx.isNm isKw s.data.toList) := by
 have hsl : s.data.toList.length = s.size := by simp
 unfold jointerref02_IsName.f
 rw [Lib.toList_data]
 obtain ⟨k, rfl⟩ : ∃ m, k = m + 1 := ⟨k - 1, by omega⟩
 cases hl : s.data.toList with
 | nil => rw [if_pos rfl, jointerref02_IsName.j0, if_pos rfl]; rfl
 | cons b r =>
  have h0 : 0 < s.size := by rw [← hsl, hl]; exact Nat.succ_pos _
  rw [if_neg (by simp)]
  by_cases h20 : s.size ≤ 20
  ·have hb : s[0] = b := by
    have := drop_at h0
    rw [List.drop_zero, hl] at this
    exact (List.cons.inj this).1.symm
   have hbt := bt_nat h0
   rw [show ((0 : Nat) : Int) = (0 : Int) from rfl, hb] at hbt
   rw [if_neg (by omega), if_pos (by omega), hbt, ref_digit, Option.bind_some, jointerref02_IsName.j0, isNm_eq]
   have h1 := ref_name_l0 s h20 s.size 0 k (by omega) (by omega)
   rw [show ((0 : Nat) : Int) = (0 : Int) from rfl, List.drop_zero, hl] at h1
   have hlen : (b :: r).length ≤ 20 := by rw [← hl, hsl]; exact h20
   have hall : ∀ l : List UInt8, l.all (fun b => Lx.isWord b && nu b) = (l.all Lx.isWord && l.all nu) := by
    intro l
    induction l with
    | nil => rfl
    | cons c t ih =>
     rw [List.all_cons, List.all_cons, List.all_cons, ih]
     cases Lx.isWord c <;> cases nu c <;> simp
   rw [decide_eq_true hlen, Bool.true_and]
   have hld := let_dig b
   by_cases hD : Lx.isDig b = true
   ·rw [hD, Bool.and_true] at hld
    rw [if_pos hD, hld]
    rfl
   ·rw [if_neg hD, h1, hall]
    rw [Bool.not_eq_true] at hD
    rw [List.all_cons (f := Lx.isWord)]
    have hW : Lx.isWord b = Lx.isLet b := by unfold Lx.isWord; rw [hD, Bool.or_false]
    rw [hW]
    cases Lx.isLet b <;> simp
  ·have hlen : ¬ (b :: r).length ≤ 20 := by rw [← hl, hsl]; exact h20
   rw [if_pos (by omega), jointerref02_IsName.j0, if_pos rfl, isNm_eq, decide_eq_false hlen]
   rfl
def nmB (s : ByteArray) : Bool := Lx.isNm isKw s.data.toList
def colB (c : S78) : Bool := nmB c.f0 && (if c.f1 = 1 then decide (c.f3 ≤ c.f4) else if c.f1 = 2 then decide (c.f3 = 0) && (decide (0 ≤ c.f4) && decide (c.f4 ≤ 100)) else if c.f1 = 3 then decide (c.f3 = 0) && (c.f4 == 0) else false)
def colsG (l : List S78) : Nat → Nat → Bool
 | 0, _ => true
 | g + 1, i => colB (rd_T78 l (i : Int)) && (if memP (rd_T78 l (i : Int)).f0 ((l.map (·.f0)).take i) = true then false else colsG l g (i + 1))
def colsB (l : List S78) : Bool := decide (l.length ≤ 8) && colsG l l.length 0
def risG (l : List Int) (n : Int) : Nat → Nat → Bool
 | 0, _ => true
 | g + 1, i => if rd l (i : Int) < 0 then false else if rd l (i : Int) ≥ n then false else if 0 < i ∧ rd l (i : Int) ≤ rd l ((i - 1 : Nat) : Int) then false else risG l n g (i + 1)
def risB (l : List Int) (n : Int) : Bool := risG l n l.length 0
theorem ref_name_walk (s : ByteArray) (w : World) : Calls Tryz.prog 48 #[.string s] w fun e w' => e = .returned (.bool (nmB s)) ∧ Below w.heap.size w w' :=
 jointerref02_IsName.calls 460 s _ w (ref_name_is s 460 (Nat.le_refl _))
theorem col_s (c : S78) (k : Nat) (hk : 40 ≤ k) : scheme_validColumn.f k c.f0 c.f1 c.f2 c.f3 c.f4 = some (colB c) := by
 unfold scheme_validColumn.f colB
 rw [name_is _ k hk]
 show _ = some (nmB c.f0 && _)
 have e : Lx.isNm isKw c.f0.data.toList = nmB c.f0 := rfl
 rw [e]
 cases nmB c.f0 <;> simp only [Option.bind_some, if_true, Bool.true_and, Bool.false_and]
 ·split <;> first | rfl | (split <;> first | rfl | (split <;> rfl))
 ·by_cases h1 : c.f1 = 1
  ·rw [if_pos h1, if_pos h1]
  ·rw [if_neg h1, if_neg h1]
   by_cases h2 : c.f1 = 2
   ·rw [if_pos h2, if_pos h2]
    by_cases h3 : c.f3 = 0
    ·rw [if_pos h3, decide_eq_true h3]
     by_cases h4 : 0 ≤ c.f4
     ·rw [if_pos h4, decide_eq_true h4]; rfl
     ·rw [if_neg h4, decide_eq_false h4]; rfl
    ·rw [if_neg h3, decide_eq_false h3]; rfl
   ·rw [if_neg h2, if_neg h2]
    by_cases h2 : c.f1 = 3
    ·rw [if_pos h2, if_pos h2]
     by_cases h3 : c.f3 = 0
     ·rw [if_pos h3, decide_eq_true h3]; rfl
     ·rw [if_neg h3, decide_eq_false h3]; rfl
    ·rw [if_neg h2, if_neg h2]
theorem col_r (c : S78) (k : Nat) (hk : 460 ≤ k) : jointerref07_ValidColumn.f k c.f0 c.f1 c.f2 c.f3 c.f4 = some (colB c) := by
 unfold jointerref07_ValidColumn.f colB
 rw [ref_name_is _ k hk]
 have e : Lx.isNm isKw c.f0.data.toList = nmB c.f0 := rfl
 rw [e]
 cases nmB c.f0 <;> simp only [Option.bind_some, if_true, Bool.true_and, Bool.false_and]
 ·rfl
 ·by_cases h1 : c.f1 = 1
  ·rw [if_pos h1, if_pos h1]
  ·rw [if_neg h1, if_neg h1]
   by_cases h2 : c.f1 = 2
   ·rw [if_pos h2, if_pos h2]
    by_cases h3 : c.f3 = 0
    ·rw [if_pos h3, decide_eq_true h3]
     by_cases h4 : 0 ≤ c.f4
     ·rw [if_pos h4, decide_eq_true h4]; rfl
     ·rw [if_neg h4, decide_eq_false h4]; rfl
    ·rw [if_neg h3, decide_eq_false h3]; rfl
   ·rw [if_neg h2, if_neg h2]
    by_cases h2 : c.f1 = 3
    ·rw [if_pos h2, if_pos h2]
     by_cases h3 : c.f3 = 0
     ·rw [if_pos h3, decide_eq_true h3]; rfl
     ·rw [if_neg h3, decide_eq_false h3]; rfl
    ·rw [if_neg h2, if_neg h2]
theorem ba_eq (s t : ByteArray) : s.toList = t.toList ↔ s = t := by
 rw [Lib.toList_data, Lib.toList_data]
 constructor
 ·intro h
  cases s; cases t
  rename_i a b
  cases a; cases b
  simp at h
  rw [h]
 ·intro h; rw [h]
theorem rdT78 {l : List S78} {i : Nat} (h : i < l.length) : rd_T78 l (i : Int) = l[i] := by unfold rd_T78; simp [List.getD, h]
theorem names_drop {l : List S78} {i j : Nat} (h : j < i) (hi : i ≤ l.length) : ((l.map (·.f0)).take i).drop j = (rd_T78 l (j : Int)).f0 :: ((l.map (·.f0)).take i).drop (j + 1) := by
 rw [List.drop_eq_getElem_cons (by rw [List.length_take, List.length_map]; omega)]
 congr 1
 rw [List.getElem_take, List.getElem_map, rdT78 (by omega)]
theorem w1 (n : Nat) (h : n < 9223372036854775807) : wrap64 ((n : Int) + 1) = ((n + 1 : Nat) : Int) := by unfold wrap64; omega
theorem w2 (n : Nat) (h0 : 0 < n) (h : n < 9223372036854775807) : wrap64 ((n : Int) - 1) = ((n - 1 : Nat) : Int) := by unfold wrap64; omega
set_option maxHeartbeats 4000000 in
set_option maxRecDepth 100000 in
theorem cols_walk (A0 : Option Addr) (c0 : Nat) (l : List S78) (w : World) (hC : Kd.C k78 w A0 l.length l) (hc0 : l.length ≤ c0) :
  Calls Tryz.prog 103 #[.slice A0 l.length c0] w fun e w' => e = .returned (.bool (colsB l)) ∧ Below w.heap.size w w' := by
 have HC := Aside0.mk hC
 have HB0 := Aside0.mk (Below.refl w.heap.size w)
 have HV : Aside0 (∀ (c : S78) (W : World), Calls Tryz.prog 142 #[.agg #[.string c.f0, .int .u8 c.f1, .bool c.f2, .int .i64 c.f3, .int .i64 c.f4]] W fun e w' => e = .returned (.bool (colB c)) ∧ Below W.heap.size W w') := ⟨fun c W => jointerref07_ValidColumn.calls 460 _ _ _ _ _ _ W (col_r c 460 (Nat.le_refl _))⟩
 clear hC
 unfold colsB
 by_cases h8 : l.length ≤ 8
 case neg =>
  have h9 : (8 : Int) < (l.length : Int) := by omega
  rw [decide_eq_false h8, Bool.false_and]
  go_enter Tryz.func103, Tryz.ntmps103
  go_wp2
  go_ret
  exact ⟨rfl, HB0.out⟩
 case pos =>
  have h9 : ¬ (8 : Int) < (l.length : Int) := by omega
  rw [decide_eq_true h8, Bool.true_and]
  go_enter Tryz.func103, Tryz.ntmps103
  go_wp2
  go_loopg [3] l.length (fun gk v3 wx => ∃ (i : Nat), i + gk = l.length ∧ v3 = .int .i64 i ∧ Aside0 (Below w.heap.size w wx) ∧ Aside0 (colsG l l.length 0 = colsG l gk i))
  case atStart => exact ⟨0, by omega, rfl, HB0, ⟨rfl⟩⟩
  case round =>
   clear HB0
   obtain ⟨i, hi, rfl, HW, HP⟩ := hrel
   cases gk with
   | zero =>
    have hii : ¬ (i : Int) < (l.length : Int) := by omega
    have HP2 : Aside0 (colsG l l.length 0 = true) := ⟨HP.out⟩
    clear HP
    go_wp2
    go_ret
    exact ⟨by rw [HP2.out]; rfl, HW.out⟩
   | succ g1 =>
    have hlt : i < l.length := by omega
    have hii : (i : Int) < (l.length : Int) := by omega
    have hi0 : (0 : Int) ≤ (i : Int) := by omega
    obtain ⟨ad, hA, x0, x1, x2, x3, x4⟩ := at_T78 HC.out (i : Int) hi0 hii
    subst hA
    rw [Int.toNat_natCast] at x0 x1 x2 x3 x4
    have HX : Aside0 (∀ W, Below w.heap.size w W → W.cell? (ad.add (i * 5)) = some (.string (rd_T78 l (i : Int)).f0)) := ⟨fun W hW => (hW.cell (World.block_lt_of_cell? w _ x0)).trans x0⟩
    replace x0 := (HW.out.cell (World.block_lt_of_cell? w _ x0)).trans x0
    replace x1 := (HW.out.cell (World.block_lt_of_cell? w _ x1)).trans x1
    replace x2 := (HW.out.cell (World.block_lt_of_cell? w _ x2)).trans x2
    replace x3 := (HW.out.cell (World.block_lt_of_cell? w _ x3)).trans x3
    replace x4 := (HW.out.cell (World.block_lt_of_cell? w _ x4)).trans x4
    have HV2 := Aside0.mk (HV.out (rd_T78 l (i : Int)) wr)
    have hp := HP.out
    rw [colsG] at hp
    have HN := Aside0.mk (fun (j : Nat) (h : j < i) => names_drop (l := l) h (Nat.le_of_lt hlt))
    have HML : Aside0 ((((l.map (·.f0)).take i)).length = i) := ⟨by rw [List.length_take, List.length_map]; omega⟩
    generalize rd_T78 l (i : Int) = c at *
    clear HP
    cases hcb : colB c with
    | false =>
     rw [hcb, Bool.false_and] at hp
     rw [hcb] at HV2
     have HP2 := Aside0.mk hp
     clear hp hcb HN HML
     go_wp2_with (go_at_call 142; refine HV2.out.mono ?_; rintro e w1 ⟨rfl, hb1⟩)
     go_ret
     exact ⟨by rw [HP2.out]; rfl, below_step HW.out hb1⟩
    | true =>
     rw [hcb, Bool.true_and] at hp
     rw [hcb] at HV2
     have HP2 := Aside0.mk hp
     clear hp hcb
     generalize ((l.map (·.f0)).take i) = nms at *
     go_wp2_with (go_at_call 142; refine HV2.out.mono ?_; rintro e w1 ⟨rfl, hb1⟩; have HW1 := Aside0.mk (below_step HW.out hb1); clear hb1)
     go_loopg [4] i (fun gj v4 wx => ∃ (j : Nat), j + gj = i ∧ v4 = .int .i64 j ∧ Aside0 (Below w.heap.size w wx) ∧ Aside0 (memP c.f0 nms = memP c.f0 (nms.drop j)))
     case atStart => exact ⟨0, by omega, rfl, HW1, ⟨by rw [List.drop_zero]⟩⟩
     case round =>
      clear HW1 HW x0 x1 x2 x3 x4 HV2
      obtain ⟨j, hj, rfl, HW, HM⟩ := hrel
      cases gk with
      | zero =>
       have hjj : ¬ (j : Int) < (i : Int) := by omega
       have hm := HM.out
       rw [List.drop_eq_nil_of_le (by have := HML.out; omega)] at hm
       have HP3 : Aside0 (colsG l l.length 0 = colsG l g1 (i + 1)) := ⟨by rw [HP2.out, if_neg (by rw [hm]; simp [memP])]⟩
       clear hm HP2
       go_wp2
       go_roundg g1
       case measure => omega
       case rel => exact ⟨i + 1, by omega, by first | rfl | (simp; done) | (simp; unfold wrap64; omega), HW, HP3⟩
      | succ gj =>
       have hjl : j < l.length := by omega
       have hjj : (j : Int) < (i : Int) := by omega
       have hjll : (j : Int) < (l.length : Int) := by omega
       have hj0 : (0 : Int) ≤ (j : Int) := by omega
       obtain ⟨ad2, hA, y0, _⟩ := at_T78 (Kd.C_below HC.out HW.out) (j : Int) hj0 hjll
       cases hA
       rw [Int.toNat_natCast] at y0
       have z0 := HX.out _ HW.out
       have hm := HM.out
       rw [HN.out j (by omega)] at hm
       have HBN : Aside0 (∀ nq, Below w.heap.size w (wr.drewN nq)) := ⟨fun nq => below_step HW.out (pw_below_drewN (Below.refl _ _) nq)⟩
       generalize (rd_T78 l (j : Int)).f0 = y at *
       clear HM
       by_cases q : y.toList = c.f0.toList
       ·have d1 : (y.toList == c.f0.toList) = true := beq_iff_eq.mpr q
        have HP3 : Aside0 (colsG l l.length 0 = false) := ⟨by rw [HP2.out, if_pos (by rw [hm, (ba_eq _ _).1 q]; simp [memP])]⟩
        clear q hm HP2
        go_wp2
        go_quiet (fail)
        go_wp2
        go_ret
        exact ⟨by rw [HP3.out]; rfl, HBN.out _⟩
       ·have d1 : (y.toList == c.f0.toList) = false := beq_eq_false_iff_ne.mpr q
        have HM2 : Aside0 (memP c.f0 nms = memP c.f0 (nms.drop (j + 1))) := ⟨by rw [hm]; unfold memP; rw [List.any_cons, decide_eq_false (fun h => q (by rw [h])), Bool.false_or]⟩
        clear q hm
        go_wp2
        go_quiet (fail)
        go_wp2
        have HW2 := Aside0.mk (HBN.out nq)
        go_roundg gj
        case measure => omega
        case rel => exact ⟨j + 1, by omega, by first | rfl | (simp; done) | (simp; unfold wrap64; omega), HW2, HM2⟩
theorem ris_r (l : List Int) (n : Int) (hl : l.length ≤ 9223372036854775807) : ∀ (d i k : Nat), i + d = l.length → d < k → jointerref07_rising.l0 k l n (i : Int) = some (risG l n d i) := by
 intro d
 induction d with
 | zero =>
  intro i k hi hk
  obtain ⟨k, rfl⟩ : ∃ m, k = m + 1 := ⟨k - 1, by omega⟩
  rw [jointerref07_rising.l0, if_neg (by omega)]; rfl
 | succ d ih =>
  intro i k hi hk
  obtain ⟨k, rfl⟩ : ∃ m, k = m + 1 := ⟨k - 1, by omega⟩
  rw [jointerref07_rising.l0, if_pos (by omega), if_pos (by omega), risG, w1 i (by omega), ih (i + 1) k (by omega) (by omega)]
  by_cases q1 : rd l (i : Int) < 0
  ·rw [if_pos q1, if_pos q1]
  rw [if_neg q1, if_neg q1]
  by_cases q2 : rd l (i : Int) ≥ n
  ·rw [if_pos q2, if_pos q2]
  rw [if_neg q2, if_neg q2]
  by_cases q3 : 0 < i
  ·rw [if_pos (by omega), w2 i q3 (by omega), if_pos (by omega), if_pos (by omega)]
   by_cases q4 : rd l (i : Int) ≤ rd l ((i - 1 : Nat) : Int)
   ·rw [if_pos q4, if_pos ⟨q3, q4⟩]
   ·rw [if_neg q4, if_neg (fun h => q4 h.2)]
  ·rw [if_neg (by omega), if_neg (fun h => q3 h.1)]
theorem ris_s (l : List Int) (n : Int) (hl : l.length ≤ 9223372036854775807) : ∀ (d i k : Nat), i + d = l.length → d < k → scheme_rising.l0 k l n l (l.length : Int) (i : Int) = some (risG l n d i) := by
 intro d
 induction d with
 | zero =>
  intro i k hi hk
  obtain ⟨k, rfl⟩ : ∃ m, k = m + 1 := ⟨k - 1, by omega⟩
  rw [scheme_rising.l0, if_neg (by omega)]; rfl
 | succ d ih =>
  intro i k hi hk
  obtain ⟨k, rfl⟩ : ∃ m, k = m + 1 := ⟨k - 1, by omega⟩
  rw [scheme_rising.l0, if_pos (by omega), if_pos (by omega), if_pos (by omega), risG, w1 i (by omega), ih (i + 1) k (by omega) (by omega)]
  by_cases q1 : rd l (i : Int) < 0
  ·rw [if_pos q1, if_pos q1]
  rw [if_neg q1, if_neg q1]
  by_cases q2 : rd l (i : Int) ≥ n
  ·rw [if_pos q2, if_pos q2]
  rw [if_neg q2, if_neg q2]
  by_cases q3 : 0 < i
  ·rw [if_pos (by omega), w2 i q3 (by omega), if_pos (by omega), if_pos (by omega)]
   by_cases q4 : rd l (i : Int) ≤ rd l ((i - 1 : Nat) : Int)
   ·rw [if_pos q4, if_pos ⟨q3, q4⟩]
   ·rw [if_neg q4, if_neg (fun h => q4 h.2)]
  ·rw [if_neg (by omega), if_neg (fun h => q3 h.1)]
theorem rising_s (l : List Int) (n : Int) (hl : l.length ≤ 9223372036854775807) (k : Nat) (hk : l.length < k) : scheme_rising.f k l n = some (risB l n) := ris_s l n hl l.length 0 k (by omega) hk
theorem rising_walk (A0 : Option Addr) (c0 : Nat) (l : List Int) (n : Int) (w : World) (hC : Kd.C (Kd.int .i64) w A0 l.length l) (hc0 : l.length ≤ c0) :
  Calls Tryz.prog 161 #[.slice A0 l.length c0, .int .i64 n] w fun e w' => e = .returned (.bool (risB l n)) ∧ Below w.heap.size w w' := by
 refine (jointerref07_rising.calls (l.length + 1) A0 c0 l n _ w hC hc0 (ris_r l n hC.2.1 l.length 0 _ (by omega) (by omega))).mono ?_
 rintro e w' ⟨rfl, m, rfl⟩
 exact ⟨rfl, pw_below_drewN (Below.refl _ _) _⟩
def keyB (n : Int) (k : List Int) : Bool := if (k.length : Int) = 0 then false else risB k n
def keysB (n : Int) : List (List Int) → Bool
 | [] => true
 | k :: r => if keyB n k = true then keysB n r else false
def rrefsP (s : List S49) (n : Int) (e : Bool) : List S75 → Option Bool
 | [] => some e
 | r :: l => (refRefP s n r.f0 r.f1 r.f2).bind fun b => if b = true then rrefsP s n e l else some false
def refTableP (s : List S49) (n : Nat) : Option Bool :=
 if nmB (rd_T49 s n).f0 = true then if colsB (rd_T49 s n).f1 = true then if ((rd_T49 s n).f2.length : Int) > 4 then some false else if ((rd_T49 s n).f3.length : Int) > 4 then some false else
  if memP (rd_T49 s n).f0 ((s.map (·.f0)).take n) = true then some false else if keysB ((rd_T49 s n).f1.length : Int) (rd_T49 s n).f2 = true then rrefsP s n (risB (rd_T49 s n).f4 ((rd_T49 s n).f1.length : Int)) (rd_T49 s n).f3 else some false
  else some false else some false
theorem rdL6 {l : List (List Int)} {i : Nat} (h : i < l.length) : rd_L6 l (i : Int) = l[i] := by unfold rd_L6; simp [List.getD, h]
theorem rdT75 {l : List S75} {i : Nat} (h : i < l.length) : rd_T75 l (i : Int) = l[i] := by unfold rd_T75; simp [List.getD, h]
theorem rdT49 {l : List S49} {i : Nat} (h : i < l.length) : rd_T49 l (i : Int) = l[i] := by unfold rd_T49; simp [List.getD, h]
theorem tnames_drop {l : List S49} {i j : Nat} (h : j < i) (hi : i ≤ l.length) : ((l.map (·.f0)).take i).drop j = (rd_T49 l (j : Int)).f0 :: ((l.map (·.f0)).take i).drop (j + 1) := by
 rw [List.drop_eq_getElem_cons (by rw [List.length_take, List.length_map]; omega)]
 congr 1
 rw [List.getElem_take, List.getElem_map, rdT49 (by omega)]
set_option maxHeartbeats 4000000 in
set_option maxRecDepth 100000 in
theorem refTable_walk (A0 : Option Addr) (c0 : Nat) (s : List S49) (n : Nat) (r : Bool) (w : World) (hS : Kd.C k49 w A0 s.length s) (hc0 : s.length ≤ c0) (hn : n < s.length) (h : refTableP s n = some r) :
  Calls Tryz.prog 134 #[.slice A0 s.length c0, .int .i64 n] w fun e w' => e = .returned (.bool r) ∧ Below w.heap.size w w' := by
 have HS := Aside0.mk hS
 have HH := Aside0.mk h
 have hn0 : (0 : Int) ≤ (n : Int) := by omega
 have hn1 : (n : Int) < (s.length : Int) := by omega
 have hslen := hS.2.1
 have HRR : Aside0 (∀ (A2 : Option Addr) (c2 : Nat) (cols : List Int) (t q : Int) (b : Bool) (W : World), Below w.heap.size w W → Kd.C (Kd.int .i64) W A2 cols.length cols → cols.length ≤ c2 → refRefP s n cols t q = some b →
   Calls Tryz.prog 162 #[.slice A0 s.length c0, .int .i64 n, .agg #[.slice A2 cols.length c2, .int .i64 t, .int .i64 q]] W fun e w' => e = .returned (.bool b) ∧ Below W.heap.size W w') := ⟨fun A2 c2 cols t q b W hW hC hc hh => refRef_walk A0 c0 s n A2 c2 cols t q b W (Kd.C_below hS hW) hc0 hn0 hn1 hC hc hh⟩
 obtain ⟨an, N1, n1, N2, n2, N3, n3, N4, n4, hAn, hz0, hz1, hz2, hz3, hz4, m1, l1_, m2, l2_, m3, l3_, m4, l4_⟩ := at_T49 hS (n : Int) hn0 hn1
 cases hAn
 rw [Int.toNat_natCast] at hz0 hz1 hz2 hz3 hz4
 clear hS h
 unfold refTableP at HH
 generalize hy : rd_T49 s (n : Int) = y at *
 clear hy
 have L1 := Aside0.mk l1_
 have L2 := Aside0.mk l2_
 have L3 := Aside0.mk l3_
 have L4 := Aside0.mk l4_
 clear l1_ l2_ l3_ l4_
 go_enter Tryz.func134, Tryz.ntmps134
 go_upto_region 2 with (fail)
 obtain ⟨B, hB⟩ : ∃ B, B = w.heap.size := ⟨_, rfl⟩
 obtain ⟨W1, hW1⟩ : ∃ W, W = w.alloc (Obj.cells #[Value.string y.f0, Value.slice N1 y.f1.length n1, Value.slice N2 y.f2.length n2, Value.slice N3 y.f3.length n3, Value.slice N4 y.f4.length n4] 72) := ⟨_, rfl⟩
 have hb5 : W1.heap[B]? = some (.cells #[Value.string y.f0, Value.slice N1 y.f1.length n1, Value.slice N2 y.f2.length n2, Value.slice N3 y.f3.length n3, Value.slice N4 y.f4.length n4] 72 (0, 0)) := by rw [hW1, hB]; exact Go.Deep.blk_alloc_new w _
 have hBW : Below w.heap.size w W1 := by rw [hW1]; exact (Below.refl _ _).alloc (Nat.le_refl _) _
 rw [← hW1, ← hB]
 clear hW1 hB
 have KB : Aside0 (∀ W, Below W1.heap.size W1 W → W.cell? ⟨B, 0, none⟩ = some (Value.string y.f0) ∧ W.cell? ⟨B, 1, none⟩ = some (Value.slice N1 y.f1.length n1) ∧ W.cell? ⟨B, 2, none⟩ = some (Value.slice N2 y.f2.length n2) ∧ W.cell? ⟨B, 3, none⟩ = some (Value.slice N3 y.f3.length n3) ∧ W.cell? ⟨B, 4, none⟩ = some (Value.slice N4 y.f4.length n4)) := ⟨fun W hW => by
  have h5 := (hW.block _ (blk_lt hb5)).trans hb5
  exact ⟨(blk_cell h5 0).trans rfl, (blk_cell h5 1).trans rfl, (blk_cell h5 2).trans rfl, (blk_cell h5 3).trans rfl, (blk_cell h5 4).trans rfl⟩⟩
 have HBW := Aside0.mk hBW
 clear hb5 hBW hz0 hz1 hz2 hz3 hz4
 obtain ⟨x0, x1, x2, x3, x4⟩ := KB.out W1 (Below.refl _ _)
 have HNM := Aside0.mk (ref_name_walk y.f0 W1)
 have HCO : Aside0 (∀ W, Below W1.heap.size W1 W → Calls Tryz.prog 103 #[.slice N1 y.f1.length n1] W fun e w' => e = .returned (.bool (colsB y.f1)) ∧ Below W.heap.size W w') := ⟨fun W hW => cols_walk N1 n1 y.f1 W (Kd.C_below L1.out (below_step HBW.out hW)) m1⟩
 have h := HH.out
 clear HH
 cases hnm : nmB y.f0 with
 | false =>
  rw [hnm, if_neg (by decide)] at h
  rw [hnm] at HNM
  clear hnm
  obtain rfl := Option.some.inj h
  clear h
  go_wp2_with (go_at_call 48; refine HNM.out.mono ?_; rintro e w1 ⟨rfl, hb1⟩)
  go_ret
  exact ⟨rfl, below_step HBW.out hb1⟩
 | true =>
 rw [hnm, if_pos rfl] at h
 rw [hnm] at HNM
 clear hnm
 cases hco : colsB y.f1 with
 | false =>
  rw [hco, if_neg (by decide)] at h
  rw [hco] at HCO
  clear hco
  obtain rfl := Option.some.inj h
  clear h
  go_wp2_with (first | (go_at_call 48; refine HNM.out.mono ?_; rintro e w1 ⟨rfl, hb1⟩; obtain ⟨x0, x1, x2, x3, x4⟩ := KB.out w1 hb1) | (go_at_call 103; refine (HCO.out _ hb1).mono ?_; rintro e w2 ⟨rfl, hb2⟩))
  go_ret
  exact ⟨rfl, below_step HBW.out (below_step hb1 hb2)⟩
 | true =>
 rw [hco, if_pos rfl] at h
 rw [hco] at HCO
 have hc8 := hco
 clear hco
 by_cases q1 : (y.f2.length : Int) > 4
 ·rw [if_pos q1] at h
  obtain rfl := Option.some.inj h
  have d1 : decide (4 < (y.f2.length : Int)) = true := decide_eq_true q1
  clear h q1 hc8
  go_wp2_with (first | (go_at_call 48; refine HNM.out.mono ?_; rintro e w1 ⟨rfl, hb1⟩; obtain ⟨x0, x1, x2, x3, x4⟩ := KB.out w1 hb1) | (go_at_call 103; refine (HCO.out _ hb1).mono ?_; rintro e w2 ⟨rfl, hb2⟩; obtain ⟨x0, x1, x2, x3, x4⟩ := KB.out w2 (below_step hb1 hb2)))
  go_ret
  exact ⟨rfl, below_step HBW.out (below_step hb1 hb2)⟩
 rw [if_neg q1] at h
 have d1 : decide (4 < (y.f2.length : Int)) = false := decide_eq_false q1
 by_cases q2 : (y.f3.length : Int) > 4
 ·rw [if_pos q2] at h
  obtain rfl := Option.some.inj h
  have d2 : decide (4 < (y.f3.length : Int)) = true := decide_eq_true q2
  clear h q1 q2 hc8
  go_wp2_with (first | (go_at_call 48; refine HNM.out.mono ?_; rintro e w1 ⟨rfl, hb1⟩; obtain ⟨x0, x1, x2, x3, x4⟩ := KB.out w1 hb1) | (go_at_call 103; refine (HCO.out _ hb1).mono ?_; rintro e w2 ⟨rfl, hb2⟩; obtain ⟨x0, x1, x2, x3, x4⟩ := KB.out w2 (below_step hb1 hb2)))
  go_ret
  exact ⟨rfl, below_step HBW.out (below_step hb1 hb2)⟩
 rw [if_neg q2] at h
 have d2 : decide (4 < (y.f3.length : Int)) = false := decide_eq_false q2
 have HP := Aside0.mk h
 clear h q1 q2 hc8
 go_wp2_with (first | (go_at_call 48; refine HNM.out.mono ?_; rintro e w1 ⟨rfl, hb1⟩; obtain ⟨x0, x1, x2, x3, x4⟩ := KB.out w1 hb1) | (go_at_call 103; refine (HCO.out _ hb1).mono ?_; rintro e w2 ⟨rfl, hb2⟩; obtain ⟨x0, x1, x2, x3, x4⟩ := KB.out w2 (below_step hb1 hb2)))
 have HB := Aside0.mk (below_step hb1 hb2)
 clear hb1 hb2 d1 d2 x0 x1 x2 x3 x4 HNM HCO
 go_loopg [6] n (fun gk v6 wx => ∃ (i : Nat), i + gk = n ∧ v6 = .int .i64 i ∧ Aside0 (Below W1.heap.size W1 wx) ∧ Aside0 ((if memP y.f0 (((s.map (·.f0)).take n).drop i) = true then some false else if keysB (y.f1.length : Int) y.f2 = true then rrefsP s n (risB y.f4 (y.f1.length : Int)) y.f3 else some false) = some r))
 case atStart => exact ⟨0, by omega, rfl, HB, HP⟩
 case round =>
  clear HB HP
  obtain ⟨i, hi, rfl, HW, HP⟩ := hrel
  obtain ⟨x0, x1, x2, x3, x4⟩ := KB.out wr HW.out
  cases gk with
  | succ gi =>
   have hii : (i : Int) < (n : Int) := by omega
   have hi0 : (0 : Int) ≤ (i : Int) := by omega
   have his : (i : Int) < (s.length : Int) := by omega
   obtain ⟨at_, _, _, _, _, _, _, _, _, hAt, y0, _⟩ := at_T49 HS.out (i : Int) hi0 his
   cases hAt
   rw [Int.toNat_natCast] at y0
   replace y0 := ((below_step HBW.out HW.out).cell (World.block_lt_of_cell? w _ y0)).trans y0
   have hp := HP.out
   rw [tnames_drop (i := n) (by omega) (by omega)] at hp
   clear HP
   generalize (rd_T49 s (i : Int)).f0 = nm at *
   by_cases q : nm = y.f0
   ·rw [if_pos ((memP_iff _ _).2 (by rw [q]; exact List.mem_cons_self))] at hp
    obtain rfl := Option.some.inj hp
    have e1 : (nm.toList == y.f0.toList) = true := beq_iff_eq.mpr ((ba_eq _ _).2 q)
    clear hp q
    go_wp2
    go_quiet (fail)
    go_wp2
    go_ret
    exact ⟨rfl, pw_below_drewN (below_step HBW.out HW.out) _⟩
   ·have : memP y.f0 (nm :: ((s.map (·.f0)).take n).drop (i + 1)) = memP y.f0 (((s.map (·.f0)).take n).drop (i + 1)) := by
     rw [memP, List.any_cons, decide_eq_false q, Bool.false_or]; rfl
    rw [this] at hp
    have HP := Aside0.mk hp
    have e1 : (nm.toList == y.f0.toList) = false := beq_eq_false_iff_ne.mpr (fun h => q ((ba_eq _ _).1 h))
    clear hp q this
    go_wp2
    go_quiet (fail)
    go_wp2
    go_roundg gi
    case measure => omega
    case rel => exact ⟨i + 1, by omega, ret_n (by omega), ⟨pw_below_drewN HW.out _⟩, HP⟩
  | zero =>
   have hp := HP.out
   rw [List.drop_eq_nil_of_le (by rw [List.length_take]; omega), if_neg (by simp [memP])] at hp
   have hii : ¬ (i : Int) < (n : Int) := by omega
   have HP2 := Aside0.mk hp
   clear hp HP
   go_wp2
   clear hii hi
   have hk2 := L2.out.2.1
   go_loopg [7] y.f2.length (fun gk v7 wx => ∃ (i : Nat), i + gk = y.f2.length ∧ v7 = .int .i64 i ∧ Aside0 (Below W1.heap.size W1 wx) ∧ Aside0 ((if keysB (y.f1.length : Int) (y.f2.drop i) = true then rrefsP s n (risB y.f4 (y.f1.length : Int)) y.f3 else some false) = some r))
   case atStart => exact ⟨0, by omega, rfl, HW, HP2⟩
   case round =>
    clear HW HP2 x0 x1 x2 x3 x4
    obtain ⟨i, hi, rfl, HW, HP⟩ := hrel
    obtain ⟨x0, x1, x2, x3, x4⟩ := KB.out wr HW.out
    cases gk with
    | succ gi =>
     have hii : (i : Int) < (y.f2.length : Int) := by omega
     have hi0 : (0 : Int) ≤ (i : Int) := by omega
     obtain ⟨ak, Ak, ck, hAk, hk, hck, hCk⟩ := at_L6 L2.out (i : Int) hi0 hii
     cases hAk
     rw [Int.toNat_natCast] at hk
     replace hk := ((below_step HBW.out HW.out).cell (World.block_lt_of_cell? w _ hk)).trans hk
     have hp := HP.out
     rw [List.drop_eq_getElem_cons (by omega), keysB, show y.f2[i]'(by omega) = rd_L6 y.f2 (i : Int) by unfold rd_L6; simp [List.getD, show i < y.f2.length by omega]] at hp
     clear HP
     generalize rd_L6 y.f2 (i : Int) = key at *
     by_cases q : (key.length : Int) = 0
     ·have hk0 : keyB (y.f1.length : Int) key = false := by unfold keyB; rw [if_pos q]
      simp only [hk0, Bool.false_eq_true, if_false] at hp
      obtain rfl := Option.some.inj hp
      have e1 : ((key.length : Int) == 0) = true := beq_iff_eq.mpr q
      clear hp q hk0
      go_wp2
      go_quiet (fail)
      go_wp2
      go_ret
      exact ⟨rfl, pw_below_drewN (below_step HBW.out HW.out) _⟩
     ·have hk0 : keyB (y.f1.length : Int) key = risB key (y.f1.length : Int) := by unfold keyB; rw [if_neg q]
      rw [hk0] at hp
      have e1 : ((key.length : Int) == 0) = false := beq_eq_false_iff_ne.mpr q
      have HRI : Aside0 (∀ W, Below wr.heap.size wr W → Calls Tryz.prog 161 #[.slice Ak key.length ck, .int .i64 (y.f1.length : Int)] W fun e w' => e = .returned (.bool (risB key (y.f1.length : Int))) ∧ Below W.heap.size W w') := ⟨fun W hW => rising_walk Ak ck key _ W (Kd.C_below hCk (below_step HBW.out (below_step HW.out hW))) hck⟩
      have KS : ∀ W, Below wr.heap.size wr W → W.cell? ⟨B, 1, none⟩ = some (Value.slice N1 y.f1.length n1) ∧ W.cell? ⟨B, 2, none⟩ = some (Value.slice (some ak) y.f2.length n2) ∧ W.cell? (ak.add i) = some (Value.slice Ak key.length ck) ∧ Below wr.heap.size wr W := fun W hW => by
       obtain ⟨x0, x1, x2, x3, x4⟩ := KB.out W (below_step HW.out hW)
       exact ⟨x1, x2, (hW.cell (World.block_lt_of_cell? wr _ hk)).trans hk, hW⟩
      generalize risB key (y.f1.length : Int) = b at *
      have HP := Aside0.mk hp
      clear hp q hk0 hCk
      go_wp2
      clear x0 x1 x2 x3 x4 hk
      go_region_held3 (fun w' => w'.cell? ⟨B, 1, none⟩ = some (Value.slice N1 y.f1.length n1) ∧ w'.cell? ⟨B, 2, none⟩ = some (Value.slice (some ak) y.f2.length n2) ∧ w'.cell? (ak.add i) = some (Value.slice Ak key.length ck) ∧ Below wr.heap.size wr w') (first | exact KS _ (below_drew1 (Below.refl _ _)) | exact KS _ (below_step (below_drew1 (Below.refl _ _)) hb1)) ((go_at_call 161; refine (HRI.out _ (below_drew1 (Below.refl _ _))).mono ?_; rintro e w1 ⟨rfl, hb1⟩))
      have HW2 := Aside0.mk (below_step HW.out (below_step (below_drew1 (Below.refl _ _)) hb1))
      clear hb1 KS
      cases b with
      | false =>
       have hp := HP.out
       simp only [Bool.false_eq_true, if_false] at hp
       obtain rfl := Option.some.inj hp
       clear hp
       go_wp2
       go_ret
       exact ⟨rfl, below_step HBW.out HW2.out⟩
      | true =>
       have hp := HP.out
       rw [if_pos rfl] at hp
       have HP2 := Aside0.mk hp
       clear hp
       go_wp2
       go_roundg gi
       case measure => omega
       case rel => exact ⟨i + 1, by omega, ret_n (by omega), HW2, HP2⟩
    | zero =>
     have hp := HP.out
     rw [List.drop_eq_nil_of_le (by omega), keysB, if_pos rfl] at hp
     have hii : ¬ (i : Int) < (y.f2.length : Int) := by omega
     have HP2 := Aside0.mk hp
     clear hp HP
     go_wp2
     clear hii hi
     have hk3 := L3.out.2.1
     go_loopg [8] y.f3.length (fun gk v8 wx => ∃ (i : Nat), i + gk = y.f3.length ∧ v8 = .int .i64 i ∧ Aside0 (Below W1.heap.size W1 wx) ∧ Aside0 (rrefsP s n (risB y.f4 (y.f1.length : Int)) (y.f3.drop i) = some r))
     case atStart => exact ⟨0, by omega, rfl, HW, HP2⟩
     case round =>
      clear HW HP2 x0 x1 x2 x3 x4
      obtain ⟨i, hi, rfl, HW, HP⟩ := hrel
      obtain ⟨x0, x1, x2, x3, x4⟩ := KB.out wr HW.out
      cases gk with
      | succ gi =>
       have hii : (i : Int) < (y.f3.length : Int) := by omega
       have hi0 : (0 : Int) ≤ (i : Int) := by omega
       obtain ⟨ar, Ar, cr, hAr, u0, u1, u2, hcr, hCr⟩ := at_T75 L3.out (i : Int) hi0 hii
       cases hAr
       rw [Int.toNat_natCast] at u0 u1 u2
       replace u0 := ((below_step HBW.out HW.out).cell (World.block_lt_of_cell? w _ u0)).trans u0
       replace u1 := ((below_step HBW.out HW.out).cell (World.block_lt_of_cell? w _ u1)).trans u1
       replace u2 := ((below_step HBW.out HW.out).cell (World.block_lt_of_cell? w _ u2)).trans u2
       have hp := HP.out
       rw [List.drop_eq_getElem_cons (by omega), rrefsP, show y.f3[i]'(by omega) = rd_T75 y.f3 (i : Int) by unfold rd_T75; simp [List.getD, show i < y.f3.length by omega]] at hp
       clear HP
       generalize rd_T75 y.f3 (i : Int) = rf at *
       obtain ⟨b, hb, hp⟩ := Option.bind_eq_some_iff.mp hp
       have HN := Aside0.mk (HRR.out Ar cr rf.f0 rf.f1 rf.f2 b wr (below_step HBW.out HW.out) (Kd.C_below hCr (below_step HBW.out HW.out)) hcr hb)
       have HP := Aside0.mk hp
       clear hp hb hCr
       cases b with
       | false =>
        have hp := HP.out
        rw [if_neg (by decide)] at hp
        obtain rfl := Option.some.inj hp
        clear hp
        go_wp2_with (go_at_call 162; refine HN.out.mono ?_; rintro e w1 ⟨rfl, hb1⟩)
        go_ret
        exact ⟨rfl, below_step HBW.out (below_step HW.out hb1)⟩
       | true =>
        have hp := HP.out
        rw [if_pos rfl] at hp
        have HP2 := Aside0.mk hp
        clear hp
        go_wp2_with (go_at_call 162; refine HN.out.mono ?_; rintro e w1 ⟨rfl, hb1⟩)
        go_roundg gi
        case measure => omega
        case rel => exact ⟨i + 1, by omega, ret_n (by omega), ⟨below_step HW.out hb1⟩, HP2⟩
      | zero =>
       have hp := HP.out
       rw [List.drop_eq_nil_of_le (by omega), rrefsP] at hp
       obtain rfl := Option.some.inj hp
       have hii : ¬ (i : Int) < (y.f3.length : Int) := by omega
       have HRI := Aside0.mk (rising_walk N4 n4 y.f4 (y.f1.length : Int) wr (Kd.C_below L4.out (below_step HBW.out HW.out)) m4)
       clear hp HP
       go_wp2_with (go_at_call 161; refine HRI.out.mono ?_; rintro e w1 ⟨rfl, hb1⟩)
       go_ret
       exact ⟨rfl, below_step HBW.out (below_step HW.out hb1)⟩
def tabsP (s : List S49) : Nat → Nat → Option Bool
 | 0, _ => some true
 | g + 1, i => (refTableP s i).bind fun b => if b = true then tabsP s g (i + 1) else some false
def refValidP (s : List S49) : Option Bool := if (s.length : Int) > 16 then some false else tabsP s s.length 0
set_option maxHeartbeats 4000000 in
set_option maxRecDepth 100000 in
theorem refValid_walk (A0 : Option Addr) (c0 : Nat) (s : List S49) (r : Bool) (w : World) (hS : Kd.C k49 w A0 s.length s) (hc0 : s.length ≤ c0) (h : refValidP s = some r) :
  Calls Tryz.prog 78 #[.slice A0 s.length c0] w fun e w' => e = .returned (.bool r) ∧ Below w.heap.size w w' := by
 have HS := Aside0.mk hS
 have HH := Aside0.mk h
 have hslen := hS.2.1
 clear hS h
 have h := HH.out
 unfold refValidP at h
 go_enter Tryz.func78, Tryz.ntmps78
 by_cases q : (s.length : Int) > 16
 ·rw [if_pos q] at h
  obtain rfl := Option.some.inj h
  have d1 : decide (16 < (s.length : Int)) = true := decide_eq_true q
  clear h q HH
  go_wp2
  go_ret
  exact ⟨rfl, Below.refl _ _⟩
 rw [if_neg q] at h
 have d1 : decide (16 < (s.length : Int)) = false := decide_eq_false q
 have HP := Aside0.mk h
 clear h q HH
 go_wp2
 go_loopg [3] s.length (fun gk v3 wx => ∃ (i : Nat), i + gk = s.length ∧ v3 = .int .i64 i ∧ Aside0 (Below w.heap.size w wx) ∧ Aside0 (tabsP s gk i = some r))
 case atStart => exact ⟨0, by omega, rfl, ⟨Below.refl _ _⟩, HP⟩
 case round =>
  clear HP d1
  obtain ⟨i, hi, rfl, HW, HP⟩ := hrel
  cases gk with
  | zero =>
   have hp := HP.out
   rw [tabsP] at hp
   obtain rfl := Option.some.inj hp
   have hii : ¬ (i : Int) < (s.length : Int) := by omega
   clear hp HP
   go_wp2
   go_ret
   exact ⟨rfl, HW.out⟩
  | succ gi =>
   have hii : (i : Int) < (s.length : Int) := by omega
   have hp := HP.out
   rw [tabsP] at hp
   obtain ⟨b, hb, hp⟩ := Option.bind_eq_some_iff.mp hp
   have HN := Aside0.mk (refTable_walk A0 c0 s i b wr (Kd.C_below HS.out HW.out) hc0 (by omega) hb)
   have HP2 := Aside0.mk hp
   clear HP hp hb
   cases b with
   | false =>
    have hp := HP2.out
    rw [if_neg (by decide)] at hp
    obtain rfl := Option.some.inj hp
    clear hp
    go_wp2_with (go_at_call 134; refine HN.out.mono ?_; rintro e w1 ⟨rfl, hb1⟩)
    go_ret
    exact ⟨rfl, below_step HW.out hb1⟩
   | true =>
    have hp := HP2.out
    rw [if_pos rfl] at hp
    have HP3 := Aside0.mk hp
    clear hp
    go_wp2_with (go_at_call 134; refine HN.out.mono ?_; rintro e w1 ⟨rfl, hb1⟩)
    go_roundg gi
    case measure => omega
    case rel => exact ⟨i + 1, by omega, ret_n (by omega), ⟨below_step HW.out hb1⟩, HP3⟩
def refFindG (nm : ByteArray) : Nat → List S49 → Int × Bool
 | _, [] => (0, false)
 | i, t :: l => if t.f0 = nm then ((i : Int), true) else refFindG nm (i + 1) l
def refFindP (s : List S49) (nm : ByteArray) : Option (Int × Bool) := (refValidP s).bind fun v => if v = true then some (refFindG nm 0 s) else some (0, false)
def scheme_badRef.f (k : Nat) (l0_0 : List Int) (a0_1 : Int) (a0_2 : Int) (l1 : List (S49)) (a2_0 : ByteArray) (l2_1 : List (S78)) (l2_2 : List (List Int)) (l2_3 : List (S75)) (l2_4 : List Int) : Option (Bool) := (scheme_validRef.f k l1 a2_0 l2_1 l2_2 l2_3 l2_4 l0_0 a0_1 a0_2).bind fun t275 => (some (!t275))
def scheme_idxBadRef.l0 : Nat → List (S75) → List (S49) → Int → Int → ByteArray → List (S78) → List (List Int) → List (S75) → List Int → Option (Int)
 | 0, _, _, _, _, _, _, _, _, _ => none
 | k + 1, x0, x1, x7, x8, x277000, x277001, x277002, x277003, x277004 => if x8 < x7 then (if 0 ≤ x8 then (if x8 < (x0.length : Int) then ((scheme_badRef.f k ((rd_T75 x0 x8).f0) ((rd_T75 x0 x8).f1) ((rd_T75 x0 x8).f2) x1 x277000 x277001 x277002 x277003 x277004).bind fun t278 => (if t278 = true then (some x8) else (scheme_idxBadRef.l0 k x0 x1 x7 (wrap64 (x8 + 1)) x277000 x277001 x277002 x277003 x277004))) else (none)) else (none)) else (some (-1))
def scheme_idxBadRef.f (k : Nat) (l0 : List (S75)) (l1 : List (S49)) (a2_0 : ByteArray) (l2_1 : List (S78)) (l2_2 : List (List Int)) (l2_3 : List (S75)) (l2_4 : List Int) : Option (Int) := scheme_idxBadRef.l0 k l0 l1 (l0.length : Int) 0 a2_0 l2_1 l2_2 l2_3 l2_4
def scheme_anyBadRef.f (k : Nat) (l0 : List (S75)) (l1 : List (S49)) (a2_0 : ByteArray) (l2_1 : List (S78)) (l2_2 : List (List Int)) (l2_3 : List (S75)) (l2_4 : List Int) : Option (Bool) := (scheme_idxBadRef.f k l0 l1 a2_0 l2_1 l2_2 l2_3 l2_4).bind fun t279 => (some (decide (t279 ≥ 0)))
set_option maxRecDepth 100000 in
theorem badRef_walk (k : Nat) (A0_0 : Option Addr) (c0_0 : Nat) (l0_0 : List Int) (a0_1 : Int) (a0_2 : Int) (A1 : Option Addr) (c1 : Nat) (l1 : List S49) (a2_0 : ByteArray) (A2_1 : Option Addr) (c2_1 : Nat) (l2_1 : List S78) (A2_2 : Option Addr) (c2_2 : Nat) (l2_2 : List (List Int)) (A2_3 : Option Addr) (c2_3 : Nat) (l2_3 : List S75) (A2_4 : Option Addr) (c2_4 : Nat) (l2_4 : List Int) (r : Bool) (gb gt : Nat) (w : World)
  (hr0_0 : Kd.C (Kd.int .i64) w A0_0 l0_0.length l0_0) (hc0_0 : l0_0.length ≤ c0_0) (hr1 : Kd.C k49 w A1 l1.length l1) (hc1 : l1.length ≤ c1) (hr2_1 : Kd.C k78 w A2_1 l2_1.length l2_1) (hc2_1 : l2_1.length ≤ c2_1) (hr2_2 : Kd.C (Kd.slice 3 (Kd.int .i64)) w A2_2 l2_2.length l2_2) (hc2_2 : l2_2.length ≤ c2_2) (hr2_3 : Kd.C k75 w A2_3 l2_3.length l2_3) (hc2_3 : l2_3.length ≤ c2_3) (hr2_4 : Kd.C (Kd.int .i64) w A2_4 l2_4.length l2_4) (hc2_4 : l2_4.length ≤ c2_4)
  (hb : w.heap[gb]? = some (.cells #[.slice A1 l1.length c1] 23 (0, 0))) (ht : w.heap[gt]? = some (.cells #[.string a2_0, .slice A2_1 l2_1.length c2_1, .slice A2_2 l2_2.length c2_2, .slice A2_3 l2_3.length c2_3, .slice A2_4 l2_4.length c2_4] 72 (0, 0)))
  (h : scheme_badRef.f k l0_0 a0_1 a0_2 l1 a2_0 l2_1 l2_2 l2_3 l2_4 = some r) :
  Calls Tryz.prog 132 #[.agg #[.slice A0_0 l0_0.length c0_0, .int .i64 a0_1, .int .i64 a0_2], .pointer (some ⟨gb, 0, none⟩), .pointer (some ⟨gt, 0, none⟩)] w fun e w' => e = .returned (.bool r) ∧ Below w.heap.size w w' := by
 unfold scheme_badRef.f at h
 obtain ⟨b, hv, hr⟩ := Option.bind_eq_some_iff.mp h
 obtain rfl := Option.some.inj hr
 have hb0 : ∀ o, (w.alloc o).cell? ⟨gb, 0, none⟩ = some (.slice A1 l1.length c1) := fun o => cell_al o ((blk_cell hb 0).trans rfl)
 have ht0 : ∀ o, (w.alloc o).cell? ⟨gt, 0, none⟩ = some (.string a2_0) := fun o => cell_al o ((blk_cell ht 0).trans rfl)
 have ht1 : ∀ o, (w.alloc o).cell? ⟨gt, 1, none⟩ = some (.slice A2_1 l2_1.length c2_1) := fun o => cell_al o ((blk_cell ht 1).trans rfl)
 have ht2 : ∀ o, (w.alloc o).cell? ⟨gt, 2, none⟩ = some (.slice A2_2 l2_2.length c2_2) := fun o => cell_al o ((blk_cell ht 2).trans rfl)
 have ht3 : ∀ o, (w.alloc o).cell? ⟨gt, 3, none⟩ = some (.slice A2_3 l2_3.length c2_3) := fun o => cell_al o ((blk_cell ht 3).trans rfl)
 have ht4 : ∀ o, (w.alloc o).cell? ⟨gt, 4, none⟩ = some (.slice A2_4 l2_4.length c2_4) := fun o => cell_al o ((blk_cell ht 4).trans rfl)
 have HV : Aside0 (∀ o, Calls Tryz.prog 133 #[.slice A1 l1.length c1, .agg #[.string a2_0, .slice A2_1 l2_1.length c2_1, .slice A2_2 l2_2.length c2_2, .slice A2_3 l2_3.length c2_3, .slice A2_4 l2_4.length c2_4], .agg #[.slice A0_0 l0_0.length c0_0, .int .i64 a0_1, .int .i64 a0_2]] (w.alloc o) fun e w' => e = .returned (.bool b) ∧ Below (w.alloc o).heap.size (w.alloc o) w') := ⟨fun o => by
  have hA : Below w.heap.size w (w.alloc o) := (Below.refl _ _).alloc (Nat.le_refl _) _
  exact scheme_validRef.calls k A1 c1 l1 a2_0 A2_1 c2_1 l2_1 A2_2 c2_2 l2_2 A2_3 c2_3 l2_3 A2_4 c2_4 l2_4 A0_0 c0_0 l0_0 a0_1 a0_2 b _ (Kd.C_below hr1 hA) hc1 (Kd.C_below hr2_1 hA) hc2_1 (Kd.C_below hr2_2 hA) hc2_2 (Kd.C_below hr2_3 hA) hc2_3 (Kd.C_below hr2_4 hA) hc2_4 (Kd.C_below hr0_0 hA) hc0_0 hv⟩
 clear hr0_0 hr1 hr2_1 hr2_2 hr2_3 hr2_4 h hv hr hb ht
 go_enter Tryz.func132, Tryz.ntmps132
 go_wp2_with (go_at_call 133; refine (HV.out _).mono ?_; rintro e w1 ⟨rfl, hb1⟩)
 go_ret
 exact ⟨rfl, below_step ((Below.refl _ _).alloc (Nat.le_refl _) _) hb1⟩
set_option maxRecDepth 100000 in
theorem idxBad_walk (k : Nat) (A0 : Option Addr) (c0 : Nat) (l0 : List S75) (A1 : Option Addr) (c1 : Nat) (l1 : List S49) (a2_0 : ByteArray) (A2_1 : Option Addr) (c2_1 : Nat) (l2_1 : List S78) (A2_2 : Option Addr) (c2_2 : Nat) (l2_2 : List (List Int)) (A2_3 : Option Addr) (c2_3 : Nat) (l2_3 : List S75) (A2_4 : Option Addr) (c2_4 : Nat) (l2_4 : List Int) (r : Int) (gb gt : Nat) (w : World)
  (hr0 : Kd.C k75 w A0 l0.length l0) (hc0 : l0.length ≤ c0) (hr1 : Kd.C k49 w A1 l1.length l1) (hc1 : l1.length ≤ c1) (hr2_1 : Kd.C k78 w A2_1 l2_1.length l2_1) (hc2_1 : l2_1.length ≤ c2_1) (hr2_2 : Kd.C (Kd.slice 3 (Kd.int .i64)) w A2_2 l2_2.length l2_2) (hc2_2 : l2_2.length ≤ c2_2) (hr2_3 : Kd.C k75 w A2_3 l2_3.length l2_3) (hc2_3 : l2_3.length ≤ c2_3) (hr2_4 : Kd.C (Kd.int .i64) w A2_4 l2_4.length l2_4) (hc2_4 : l2_4.length ≤ c2_4)
  (hb : w.heap[gb]? = some (.cells #[.slice A1 l1.length c1] 23 (0, 0))) (ht : w.heap[gt]? = some (.cells #[.string a2_0, .slice A2_1 l2_1.length c2_1, .slice A2_2 l2_2.length c2_2, .slice A2_3 l2_3.length c2_3, .slice A2_4 l2_4.length c2_4] 72 (0, 0)))
  (h : scheme_idxBadRef.f k l0 l1 a2_0 l2_1 l2_2 l2_3 l2_4 = some r) :
  Calls Tryz.prog 160 #[.slice A0 l0.length c0, .func (.func 132) #[] #[.pointer (some ⟨gb, 0, none⟩), .pointer (some ⟨gt, 0, none⟩)]] w fun e w' => e = .returned (.int .i64 r) ∧ Below w.heap.size w w' := by
 have HC := Aside0.mk hr0
 have HH : Aside0 (scheme_idxBadRef.l0 k l0 l1 (l0.length : Int) 0 a2_0 l2_1 l2_2 l2_3 l2_4 = some r) := ⟨h⟩
 have HB0 := Aside0.mk (Below.refl w.heap.size w)
 have HV : Aside0 (∀ k A c l a b r W, Below w.heap.size w W → Kd.C (Kd.int .i64) w A l.length l → l.length ≤ c → scheme_badRef.f k l a b l1 a2_0 l2_1 l2_2 l2_3 l2_4 = some r →
   Calls Tryz.prog 132 #[.agg #[.slice A l.length c, .int .i64 a, .int .i64 b], .pointer (some ⟨gb, 0, none⟩), .pointer (some ⟨gt, 0, none⟩)] W fun e w' => e = .returned (.bool r) ∧ Below W.heap.size W w') := ⟨fun k A c l a b r W hW hl hlc hf =>
  badRef_walk k A c l a b A1 c1 l1 a2_0 A2_1 c2_1 l2_1 A2_2 c2_2 l2_2 A2_3 c2_3 l2_3 A2_4 c2_4 l2_4 r gb gt W (Kd.C_below hl hW) hlc (Kd.C_below hr1 hW) hc1 (Kd.C_below hr2_1 hW) hc2_1 (Kd.C_below hr2_2 hW) hc2_2 (Kd.C_below hr2_3 hW) hc2_3 (Kd.C_below hr2_4 hW) hc2_4 ((hW.block _ (blk_lt hb)).trans hb) ((hW.block _ (blk_lt ht)).trans ht) hf⟩
 clear hr0 hr1 hr2_1 hr2_2 hr2_3 hr2_4 h hb ht
 go_enter Tryz.func160, Tryz.ntmps160
 go_wp2
 go_loopg [8] k (fun gk v8 wx => ∃ (i : Int), v8 = .int .i64 i ∧ Aside0 (Below w.heap.size w wx) ∧ Aside0 (scheme_idxBadRef.l0 gk l0 l1 (l0.length : Int) i a2_0 l2_1 l2_2 l2_3 l2_4 = some r))
 case atStart => exact ⟨0, rfl, HB0, HH⟩
 case round =>
  clear HB0 HH
  obtain ⟨i, rfl, HW, HP⟩ := hrel
  cases gk with
  | zero => exact absurd HP.out (by simp [scheme_idxBadRef.l0])
  | succ gk =>
   have hp := HP.out
   simp only [scheme_idxBadRef.l0] at hp
   by_cases hii : i < (l0.length : Int)
   ·rw [if_pos hii] at hp
    by_cases hi0 : 0 ≤ i
    case neg => rw [if_neg hi0] at hp; cases hp
    rw [if_pos hi0, if_pos hii] at hp
    obtain ⟨b, hv, hp2⟩ := Option.bind_eq_some_iff.mp hp
    clear hp HP
    have HP := Aside0.mk hp2
    clear hp2
    obtain ⟨ad, Ac, cc, hA, hx0, hx1, hx2, hcc, hCc⟩ := at_T75 HC.out i hi0 hii
    cases hA
    have hy0 := (HW.out.cell (World.block_lt_of_cell? w _ hx0)).trans hx0
    have hy1 := (HW.out.cell (World.block_lt_of_cell? w _ hx1)).trans hx1
    have hy2 := (HW.out.cell (World.block_lt_of_cell? w _ hx2)).trans hx2
    have HN := Aside0.mk (HV.out gk Ac cc _ _ _ b wr HW.out hCc hcc hv)
    clear hx0 hx1 hx2 hCc hcc hv HV
    generalize rd_T75 l0 i = x at *
    cases b with
    | true =>
     have hp := HP.out
     rw [if_pos rfl] at hp
     obtain rfl := Option.some.inj hp
     clear hp
     go_wp2_with (go_at_call 132; refine HN.out.mono ?_; rintro e w1 ⟨rfl, hb1⟩)
     go_ret
     exact ⟨by first | rfl | (simp; done), below_step HW.out hb1⟩
    | false =>
     have hp := HP.out
     rw [if_neg (by decide)] at hp
     have HP2 := Aside0.mk hp
     clear hp
     go_wp2_with (go_at_call 132; refine HN.out.mono ?_; rintro e w1 ⟨rfl, hb1⟩)
     go_roundg gk
     case measure => omega
     case rel => exact ⟨wrap64 (i + 1), by first | rfl | (simp; done), ⟨below_step HW.out hb1⟩, HP2⟩
   ·rw [if_neg hii] at hp
    obtain rfl := Option.some.inj hp
    clear hp
    go_wp2
    go_ret
    exact ⟨by first | rfl | (simp; done), HW.out⟩
end Go.Proofs.YthgfdnffnbclpaaGreatDoor.PAll
