/- LexJoins without Go and memory, first part: what the reference's IsToken, near, written and Join answer. -/
import Derived.Test.YtaibkpbiccibjaaGreatDoorJPa
import Derived.Test.YtaibkpbiccibjaaGreatDoorJFb
set_option linter.unusedVariables false
namespace Go.Proofs.YtaibkpbiccibjaaGreatDoor.PAll
open Go.RowKit Go.Proofs.YtaibkpbiccibjaaGreatDoorW.PrintWords Go.Proofs.YtaibkpbiccibjaaGreatDoorW.PrintLast Go.Proofs.YtaibkpbiccibjaaGreatDoorW.PrintMore

theorem bytes_eq {a b : ByteArray} (h : a.data.toList = b.data.toList) : a = b := by
  apply ByteArray.ext
  exact Array.toList_inj.1 h
theorem app_list (a b : ByteArray) : (a ++ b).data.toList = a.data.toList ++ b.data.toList := by
  rw [ByteArray.data_append]; simp
theorem one_byte {s : ByteArray} {i : Nat} (h : i < s.size) : (s.extract i (i + 1)).data.toList = [s[i]] := by
  rw [extract_list', drop_at h, show i + 1 - i = 1 by omega]
  rfl
theorem size_list (a : ByteArray) : a.size = a.data.toList.length := by simp

theorem valid_ok (x : S33) (h : okP x = true) : Lx.tokOk isKw marksL (pr x) = true := by
  unfold okP validR at h
  by_cases hk : x.f0 = 4
  · rw [if_pos hk] at h
    unfold Lx.tokOk pr
    simp [hk]
    simpa using h
  · rw [if_neg hk] at h
    split at h
    · split at h
      · cases h
      · split at h
        · cases h
        · cases ht : Lx.tokL isKw marksL x.f1.data.toList with
          | bad e => rw [ht] at h; cases h
          | good kd t n =>
            rw [ht] at h
            simp only [Bool.and_eq_true, decide_eq_true_eq] at h
            obtain ⟨⟨_, e1⟩, e2⟩ := h
            have := tokL_ok (by simp; omega) ht
            rw [e1, e2] at this
            exact this
    · cases h
theorem ok_eq (x : S33) : okP x = Lx.tokOk isKw marksL (pr x) := by
  cases h : Lx.tokOk isKw marksL (pr x) with
  | true => exact ok_valid x h
  | false =>
    cases h2 : okP x with
    | false => rfl
    | true => rw [valid_ok x h2] at h; cases h

theorem ref_istoken_l0 (s : ByteArray) (hs : s.size ≤ 140737488351232) (kd pos : Int) : ∀ (d i k : Nat), i + d = s.size → d + 5000 ≤ k → (∀ b ∈ s.data.toList.take i, Lx.isDig b = true) →
    jointerref02_IsToken.l0 k (i : Int) kd s pos = some (!s.data.toList.isEmpty && s.data.toList.all Lx.isDig && decide (s.data.toList.length ≤ 4000) && decide (Lx.numD s.data.toList ≤ 9223372036854775808)) := by
  have hsl : s.data.toList.length = s.size := by simp
  intro d
  induction d with
  | zero =>
    intro i k hi hk hw
    obtain ⟨k, rfl⟩ : ∃ m, k = m + 1 := ⟨k - 1, by omega⟩
    rw [List.take_of_length_le (by omega)] at hw
    have hall : s.data.toList.all Lx.isDig = true := List.all_eq_true.2 hw
    rw [jointerref02_IsToken.l0, if_neg (by omega), Lib.toList_data, hall]
    by_cases h0 : s.data.toList = []
    · rw [if_pos h0, h0]; rfl
    · rw [if_neg h0]
      have he : s.data.toList.isEmpty = false := by
        cases hc : s.data.toList with
        | nil => exact absurd hc h0
        | cons => rfl
      by_cases h4 : s.size ≤ 4000
      · rw [if_pos (by omega), ref_small s h4 hw k (by omega), Option.bind_some, he, hsl, decide_eq_true h4]
        simp
      · rw [if_neg (by omega), he, hsl, decide_eq_false h4]
        simp
  | succ d ih =>
    intro i k hi hk hw
    obtain ⟨k, rfl⟩ : ∃ m, k = m + 1 := ⟨k - 1, by omega⟩
    have hlt : i < s.size := by omega
    rw [jointerref02_IsToken.l0, if_pos (by omega), if_pos (by omega), bt_nat hlt, ref_digit, Option.bind_some, wrap_nat i (by omega)]
    by_cases hD : Lx.isDig s[i] = true
    · rw [if_pos hD]
      refine ih (i + 1) k (by omega) (by omega) ?_
      intro b hb
      rw [List.take_add_one, List.getElem?_eq_getElem (by omega : i < s.data.toList.length)] at hb
      rcases List.mem_append.1 hb with h1 | h1
      · exact hw b h1
      · have : b = s[i] := by simp at h1; exact h1
        rw [this]; exact hD
    · rw [if_neg hD]
      have : s.data.toList.all Lx.isDig = false := by
        rw [Bool.eq_false_iff]
        intro h
        have hm : s[i] ∈ s.data.toList := List.mem_of_getElem? (sget hlt)
        exact hD (List.all_eq_true.1 h _ hm)
      rw [this]
      simp

theorem ref_istoken (x : S33) (hs : x.f1.size ≤ 140737488351232) (k : Nat) (hk : x.f1.size + 5000 ≤ k) :
    jointerref02_IsToken.f k x.f0 x.f1 x.f2 = some (okP x) := by
  rw [ok_eq]
  unfold jointerref02_IsToken.f Lx.tokOk pr
  simp only
  by_cases h1 : x.f0 = 1
  · rw [if_pos h1, ref_kw x.f1 hs k (by omega), Option.bind_some]
    simp [h1]
  · rw [if_neg h1]
    by_cases h2 : x.f0 = 2
    · rw [if_pos h2, ref_name_is x.f1 k (by omega), Option.bind_some]
      simp [h2]
    · rw [if_neg h2]
      by_cases h3 : x.f0 = 3
      · have := ref_istoken_l0 x.f1 hs x.f0 x.f2 x.f1.size 0 k (by omega) (by omega) (by simp)
        rw [if_pos h3]
        refine Eq.trans this ?_
        simp [h3]
      · rw [if_neg h3]
        by_cases h4 : x.f0 = 4
        · rw [if_pos h4]
          simp [h4]
          omega
        · rw [if_neg h4]
          by_cases h5 : x.f0 = 5
          · rw [if_pos h5, ref_mark, Option.bind_some]
            simp [h5]
          · rw [if_neg h5]
            simp [h1, h2, h3, h4, h5]

theorem ref_near (a b : S33) : jointerref02_near.f a.f0 a.f1 a.f2 b.f0 b.f1 b.f2 = some (Lx.near (pr a) (pr b)) := by
  unfold jointerref02_near.f Lx.near pr
  simp only [Lib.toList_data]
  have hd : ∀ l m : List UInt8, (l == m) = decide (l = m) := fun l m => by
    by_cases h : l = m
    · rw [h]; simp
    · rw [decide_eq_false h]; exact beq_eq_false_iff_ne.2 h
  rw [hd]
  by_cases h5 : a.f0 = 5 <;> by_cases g5 : b.f0 = 5 <;> by_cases a1 : a.f1.data.toList = [40] <;> by_cases a2 : a.f1.data.toList = [46] <;>
    by_cases b1 : b.f1.data.toList = [44] <;> by_cases b2 : b.f1.data.toList = [41] <;> by_cases b3 : b.f1.data.toList = [46] <;> simp [h5, g5, a1, a2, b1, b2, b3]

theorem quoted_l0 (s : ByteArray) (hs : s.size ≤ 140737488351232) : ∀ (d i k : Nat) (x : ByteArray), i + d = s.size → d < k → x.size + 2 * d ≤ 4611686018427387904 →
    jointerref01_quoted.l0 k s x (i : Int) = some ⟨(x.data.toList ++ (Lx.qt (s.data.toList.drop i) ++ [39])).toArray⟩ := by
  intro d
  induction d with
  | zero =>
    intro i k x hi hk hx
    obtain ⟨k, rfl⟩ : ∃ m, k = m + 1 := ⟨k - 1, by omega⟩
    rw [jointerref01_quoted.l0, if_neg (by omega), if_pos (by omega)]
    have e : s.data.toList.drop i = [] := List.drop_eq_nil_of_le (by simp; omega)
    rw [e]
    congr 1
  | succ d ih =>
    intro i k x hi hk hx
    obtain ⟨k, rfl⟩ : ∃ m, k = m + 1 := ⟨k - 1, by omega⟩
    have hlt : i < s.size := by omega
    have hone := one_byte hlt
    have hos : (s.extract i (i + 1)).size = 1 := by rw [size_list, hone]; rfl
    rw [jointerref01_quoted.l0, if_pos (by omega), if_pos (by omega), bt_nat hlt, wrap_nat i (by omega)]
    rw [show ((i : Nat) : Int).toNat = i by omega, show ((i + 1 : Nat) : Int).toNat = i + 1 by omega]
    rw [drop_at hlt]
    by_cases h : s[i] = 39
    · have h' : ((s[i].toNat : Nat) : Int) = 39 := by rw [h]; rfl
      have hsz : (x ++ (⟨#[39]⟩ : ByteArray)).size = x.size + 1 := by rw [size_list, app_list, List.length_append, ← size_list]; rfl
      have hsz2 : ((x ++ (⟨#[39]⟩ : ByteArray)) ++ s.extract i (i + 1)).size = x.size + 2 := by rw [size_list, app_list, List.length_append, ← size_list, ← size_list, hsz, hos]
      rw [if_pos h', if_pos (by omega), if_pos (by omega), if_pos (by omega), if_pos (by omega), ih (i + 1) k _ (by omega) (by omega) (by omega)]
      rw [app_list, app_list, hone, Lx.qt, if_pos h, h]
      simp
    · have h' : ¬ ((s[i].toNat : Nat) : Int) = 39 := fun e => h (UInt8.toNat_inj.1 (by show s[i].toNat = 39; omega))
      have hsz2 : (x ++ s.extract i (i + 1)).size = x.size + 1 := by rw [size_list, app_list, List.length_append, ← size_list, ← size_list, hos]
      rw [if_neg h', if_pos (by omega), if_pos (by omega), if_pos (by omega), ih (i + 1) k _ (by omega) (by omega) (by omega)]
      rw [app_list, hone, Lx.qt, if_neg h]
      simp
theorem quoted_is (s : ByteArray) (hs : s.size ≤ 140737488351232) (k : Nat) (hk : s.size < k) : jointerref01_quoted.f k s = some ⟨(39 :: (Lx.qt s.data.toList ++ [39])).toArray⟩ := by
  unfold jointerref01_quoted.f
  have := quoted_l0 s hs s.size 0 k ⟨#[39]⟩ (by omega) hk (by show 1 + _ ≤ _; omega)
  rw [List.drop_zero] at this
  exact this

theorem ref_written (x : S33) (h : Lx.tokOk isKw marksL (pr x) = true) (k : Nat) (hk : 300 ≤ k) : jointerref02_written.f k x.f0 x.f1 x.f2 = some ⟨(Lx.written (pr x)).toArray⟩ := by
  unfold jointerref02_written.f Lx.written
  by_cases h4 : x.f0 = 4
  · have h100 : x.f1.size ≤ 100 := ok_text (ok_valid x h) h4
    rw [if_pos h4]
    unfold jointerref01_Print.f jointerref01_Valid.f
    rw [if_neg (by decide), if_neg (by decide), if_pos rfl, if_pos rfl, Option.bind_some, decide_eq_true (by omega), if_pos rfl, if_neg (by decide), if_pos rfl, quoted_is x.f1 (by omega) k (by omega)]
    unfold pr
    rw [if_pos h4]
    rfl
  · rw [if_neg h4]
    unfold pr
    rw [if_neg h4]

theorem written_len {x : Int × List UInt8} (h : Lx.tokOk isKw marksL x = true) : (Lx.written x).length ≤ 8002 := by
  have h4 := ok_len h
  unfold Lx.written
  split
  · have := PQ.qt_len2 x.2
    simp; omega
  · omega

/-- The bulk of a list of tokens. -/
def bulkT : List S33 → Nat
  | [] => 0
  | x :: r => (x.f1.size + 4) + bulkT r
def prevP (l : List S33) : Nat → Option (Int × List UInt8)
  | 0 => none
  | i + 1 => (l.map pr)[i]?
def outP (acc : ByteArray) (r : List UInt8) : ByteArray × Int := if 4000 < acc.size + r.length then (⟨#[]⟩, 2) else (⟨(acc.data.toList ++ r).toArray⟩, 0)
theorem outP_app (acc t : ByteArray) (r : List UInt8) : outP (acc ++ t) r = outP acc (t.data.toList ++ r) := by
  unfold outP
  rw [app_list, List.length_append, ← size_list, List.append_assoc, ByteArray.size_append]
  rw [Nat.add_assoc]

theorem rdN {l : List S33} {i : Nat} (h : i < l.length) : rd_T33 l (i : Int) = l[i] := rdT h

theorem ref_join_step (l : List S33) (i k : Nat) (acc : ByteArray) (b : Bool) (hi : i < l.length) (hl : l.length ≤ 140737488351232) (hok : ∀ x ∈ l, Lx.tokOk isKw marksL (pr x) = true) (hk : 300 ≤ k) (ha : acc.size ≤ 4000)
    (ih : ∀ acc : ByteArray, acc.size ≤ 4000 → jointerref02_Join.l1 k l acc ((i + 1 : Nat) : Int) = some (outP acc (Lx.joinF (prevP l (i + 1)) ((l.drop (i + 1)).map pr)))) :
    jointerref02_Join.j2 (k + 1) l acc (i : Int) b = some (outP acc ((if b = true then [32] else []) ++ (Lx.written (pr l[i]) ++ Lx.joinF (prevP l (i + 1)) ((l.drop (i + 1)).map pr)))) := by
  have hx := hok l[i] (List.getElem_mem hi)
  have hw := written_len hx
  have hwz : (⟨(Lx.written (pr l[i])).toArray⟩ : ByteArray).size = (Lx.written (pr l[i])).length := by rw [size_list]
  have hfin : ∀ a : ByteArray, (if (((a ++ (⟨(Lx.written (pr l[i])).toArray⟩ : ByteArray)).size : Nat) : Int) > 4000 then some ((⟨#[]⟩ : ByteArray), (2 : Int)) else jointerref02_Join.l1 k l (a ++ (⟨(Lx.written (pr l[i])).toArray⟩ : ByteArray)) ((i + 1 : Nat) : Int)) =
      some (outP a (Lx.written (pr l[i]) ++ Lx.joinF (prevP l (i + 1)) ((l.drop (i + 1)).map pr))) := by
    intro a
    have e := outP_app a (⟨(Lx.written (pr l[i])).toArray⟩ : ByteArray) (Lx.joinF (prevP l (i + 1)) ((l.drop (i + 1)).map pr))
    by_cases h : 4000 < (a ++ (⟨(Lx.written (pr l[i])).toArray⟩ : ByteArray)).size
    · rw [if_pos (by omega)]
      refine congrArg some ?_
      rw [← e]
      unfold outP
      rw [if_pos (by omega)]
    · rw [if_neg (by omega), ih _ (by omega), e]
  have happ : ∀ a b : ByteArray, (a ++ b).size = a.size + b.size := fun a b => ByteArray.size_append
  cases b with
  | true =>
    have h1 : (⟨#[32]⟩ : ByteArray).size = 1 := rfl
    rw [jointerref02_Join.j2, if_pos rfl, if_pos (by omega), if_pos (by omega), if_pos (by omega), rdN hi, ref_written _ hx k hk, Option.bind_some, happ acc, h1, hwz, if_pos (by omega), wrap_nat i (by omega), hfin, outP_app]
    rfl
  | false =>
    rw [jointerref02_Join.j2, if_neg (by decide), if_pos (by omega), if_pos (by omega), rdN hi, ref_written _ hx k hk, Option.bind_some, hwz, if_pos (by omega), wrap_nat i (by omega), hfin]
    rfl

theorem ref_join_l1 (l : List S33) (hl : l.length ≤ 140737488351232) (hok : ∀ x ∈ l, Lx.tokOk isKw marksL (pr x) = true) : ∀ (d i k : Nat) (acc : ByteArray), i + d = l.length → 2 * d + 400 ≤ k → acc.size ≤ 4000 →
    jointerref02_Join.l1 k l acc (i : Int) = some (outP acc (Lx.joinF (prevP l i) ((l.drop i).map pr))) := by
  intro d
  induction d with
  | zero =>
    intro i k acc hi hk ha
    obtain ⟨k, rfl⟩ : ∃ m, k = m + 1 := ⟨k - 1, by omega⟩
    have e : l.drop i = [] := List.drop_eq_nil_of_le (by omega)
    rw [jointerref02_Join.l1, if_neg (by omega), e, List.map_nil]
    have : Lx.joinF (prevP l i) [] = [] := by cases prevP l i <;> rfl
    rw [this]
    unfold outP
    rw [if_neg (by simp; omega), List.append_nil]
  | succ d ih =>
    intro i k acc hi hk ha
    obtain ⟨k, rfl⟩ : ∃ m, k = m + 2 := ⟨k - 2, by omega⟩
    have hlt : i < l.length := by omega
    have hstep := fun b => ref_join_step l i k acc b hlt hl hok (by omega) ha (fun a h => ih (i + 1) k a (by omega) (by omega) h)
    have hdrop : (l.drop i).map pr = pr l[i] :: (l.drop (i + 1)).map pr := by rw [List.drop_eq_getElem_cons hlt, List.map_cons]
    have hprev : prevP l (i + 1) = some (pr l[i]) := by
      show (l.map pr)[i]? = _
      rw [List.getElem?_map, List.getElem?_eq_getElem hlt]; rfl
    rw [jointerref02_Join.l1, if_pos (by omega), hdrop]
    cases i with
    | zero =>
      rw [if_neg (by omega), hstep false, hprev]
      rfl
    | succ j =>
      have hj : j < l.length := by omega
      have hw : wrap64 (((j + 1 : Nat) : Int) - 1) = ((j : Nat) : Int) := by unfold wrap64; omega
      have hprev' : prevP l (j + 1) = some (pr l[j]) := by
        show (l.map pr)[j]? = _
        rw [List.getElem?_map, List.getElem?_eq_getElem hj]; rfl
      rw [if_pos (by omega), hw, if_pos (by omega), if_pos (by omega), if_pos (by omega), rdN hj, rdN hlt, ref_near, Option.bind_some, hstep, hprev, hprev', Lx.joinF]
      cases Lx.near (pr l[j]) (pr l[j + 1]) <;> rfl

theorem ref_join_l0 (l : List S33) (hl : l.length ≤ 140737488351232) (hs : ∀ x ∈ l, x.f1.size ≤ 140737488351232) : ∀ (d i k : Nat), i + d = l.length → d + 1 + (140737488351232 + 5001) ≤ k →
    jointerref02_Join.l0 k l (i : Int) = if (l.drop i).all okP = true then jointerref02_Join.l1 (k - d - 1) l ⟨#[]⟩ 0 else some (⟨#[]⟩, 1) := by
  intro d
  induction d with
  | zero =>
    intro i k hi hk
    obtain ⟨k, rfl⟩ : ∃ m, k = m + 1 := ⟨k - 1, by omega⟩
    have e : l.drop i = [] := List.drop_eq_nil_of_le (by omega)
    rw [jointerref02_Join.l0, if_neg (by omega), e, if_pos (by rfl)]
    rfl
  | succ d ih =>
    intro i k hi hk
    obtain ⟨k, rfl⟩ : ∃ m, k = m + 1 := ⟨k - 1, by omega⟩
    have hlt : i < l.length := by omega
    have hz := hs l[i] (List.getElem_mem hlt)
    rw [jointerref02_Join.l0, if_pos (by omega), if_pos (by omega), rdN hlt, ref_istoken _ hz k (by omega), Option.bind_some, wrap_nat i (by omega), List.drop_eq_getElem_cons hlt, List.all_cons]
    cases okP l[i] with
    | true =>
      rw [if_pos rfl, ih (i + 1) k (by omega) (by omega), Bool.true_and, show k + 1 - (d + 1) - 1 = k - d - 1 by omega]
    | false => rw [if_neg (by decide), Bool.false_and, if_neg (by decide)]

theorem ref_join (l : List S33) (hl : l.length ≤ 140737488351232) (hs : ∀ x ∈ l, x.f1.size ≤ 140737488351232) (k : Nat) (hk : 3 * l.length + 140737488351232 + 6000 ≤ k) : jointerref02_Join.f k l = some (resP l) := by
  unfold jointerref02_Join.f
  have h := ref_join_l0 l hl hs l.length 0 k (by omega) (by omega)
  rw [List.drop_zero] at h
  refine Eq.trans h ?_
  unfold resP
  by_cases ha : l.all okP = true
  · rw [if_pos ha, if_pos ha]
    have hok : ∀ x ∈ l, Lx.tokOk isKw marksL (pr x) = true := fun x hx => valid_ok x (List.all_eq_true.1 ha x hx)
    have h1 := ref_join_l1 l hl hok l.length 0 (k - l.length - 1) ⟨#[]⟩ (by omega) (by omega) (by show 0 ≤ 4000; omega)
    rw [List.drop_zero] at h1
    refine Eq.trans h1 ?_
    rw [join_same l true none hok rfl]
    unfold outP
    have h0 : (⟨#[]⟩ : ByteArray).size = 0 := rfl
    rw [h0, Nat.zero_add]
    rfl
  · rw [if_neg ha, if_neg ha]
end Go.Proofs.YtaibkpbiccibjaaGreatDoor.PAll
