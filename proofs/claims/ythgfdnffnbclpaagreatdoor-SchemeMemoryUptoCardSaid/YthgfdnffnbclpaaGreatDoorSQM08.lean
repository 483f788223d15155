import Derived.Test.YthgfdnffnbclpaaGreatDoorSQM05
import Derived.Test.YthgfdnffnbclpaaGreatDoorSQM07
import Derived.Test.YthgfdnffnbclpaaGreatDoorSQM06
set_option linter.unusedVariables false
set_option linter.unusedSimpArgs false
namespace Go.Proofs.YthgfdnffnbclpaaGreatDoor.PAll
open Go.RowKit Go.Proofs.YthgfdnffnbclpaaGreatDoorW.PrintWords Go.Proofs.YthgfdnffnbclpaaGreatDoorW.PrintLast Go.Proofs.YthgfdnffnbclpaaGreatDoorW.PrintMore
attribute [local go_sem] max2_int min2_int max_two min_two max_three min_three max_four min_four   -- for this text's walks alone

attribute [local go_sem high] eqA64
/-! ### jointerref02_isDigit: function 60 -/
/-! ### jointerref02_isLetter: function 61 -/
/-! ### GIVEN jointerref02_IsKeyword: function 62 -/

/-! ### GIVEN jointerref02_folded: function 63 -/

/-! ### jointerref02_IsName: function 38 -/
/-! ### jointerref07_ValidColumn: function 64 -/
/-! ### jointerref07_validColumns: function 39 -/
/-! ### jointerref07_rising: function 40 -/
end Go.Proofs.YthgfdnffnbclpaaGreatDoor.PAll
namespace Go.Proofs.YthgfdnffnbclpaaGreatDoor.PAll
open Go.RowKit Go.Proofs.YthgfdnffnbclpaaGreatDoorW.PrintWords Go.Proofs.YthgfdnffnbclpaaGreatDoorW.PrintLast Go.Proofs.YthgfdnffnbclpaaGreatDoorW.PrintMore

/-- The class of a byte. -/
def cls (b : UInt8) : Int := if b = 32 ∨ b = 9 ∨ b = 10 ∨ b = 13 then 1 else (if b = 95 then 2 else (if b = 39 then 4 else (if (65 ≤ b ∧ b ≤ 90) ∨ (97 ≤ b ∧ b ≤ 122) then 2 else (if 48 ≤ b ∧ b ≤ 57 then 3 else 0))))

theorem cls_f (b : UInt8) : lex_class.f 5 b.toNat = some (cls b) := by
  have h : ∀ n : Fin 256, lex_class.f 5 ((UInt8.ofNat n.val).toNat : Nat) = some (cls (UInt8.ofNat n.val)) := by decide +kernel
  have := h ⟨b.toNat, b.toNat_lt⟩
  simpa using this

theorem drop_at {s : ByteArray} {k : Nat} (h : k < s.size) : s.data.toList.drop k = s[k] :: s.data.toList.drop (k + 1) := by
  have h' : k < s.data.toList.length := by simpa using h
  rw [List.drop_eq_getElem_cons h']
  rfl

theorem upper_up (b : UInt8) : Lib.upperB b = Lx.up b := by
  have h : ∀ n : Fin 256, Lib.upperB (UInt8.ofNat n.val) = Lx.up (UInt8.ofNat n.val) := by decide +kernel
  have := h ⟨b.toNat, b.toNat_lt⟩
  simpa using this

theorem wrap_nat (n : Nat) (h : n < 4611686018427387904) : wrap64 ((n : Int) + 1) = ((n + 1 : Nat) : Int) := by unfold wrap64; omega

theorem bt_nat {s : ByteArray} {i : Nat} (h : i < s.size) : bt s (i : Int) = (s[i].toNat : Int) := by
  unfold bt
  simp [h]

def nu (b : UInt8) : Bool := !(decide (65 ≤ b.toNat) && decide (b.toNat ≤ 90))

theorem byte_all {p : UInt8 → Prop} (h : ∀ n : Fin 256, p (UInt8.ofNat n.val)) (b : UInt8) : p b := by
  have := h ⟨b.toNat, b.toNat_lt⟩
  simpa using this

theorem clsL (b : UInt8) : decide (cls b = 2) = Lx.isLet b := byte_all (p := fun b => decide (cls b = 2) = Lx.isLet b) (by decide +kernel) b

theorem clsD (b : UInt8) : decide (cls b = 3) = Lx.isDig b := byte_all (p := fun b => decide (cls b = 3) = Lx.isDig b) (by decide +kernel) b

theorem low_nu (b : UInt8) : decide (Lib.lowerB b = b) = nu b := byte_all (p := fun b => decide (Lib.lowerB b = b) = nu b) (by decide +kernel) b

theorem word_low (b : UInt8) : (Lx.isWord b && !decide (b.toNat < 128)) = false := byte_all (p := fun b => (Lx.isWord b && !decide (b.toNat < 128)) = false) (by decide +kernel) b

theorem cls_k (b : UInt8) : ∀ k, 5 ≤ k → lex_class.f k b.toNat = some (cls b)
  | 0, h => by omega
  | k + 1, h => by
    by_cases h5 : k + 1 = 5
    · rw [h5]; exact cls_f b
    · exact lex_class.mono _ k _ (cls_k b k (by omega))

theorem map_nu (l : List UInt8) : decide (Lib.toLowerA l = l) = l.all nu := by
  induction l with
  | nil => rfl
  | cons b r ih =>
    rw [List.all_cons, ← ih, ← low_nu]
    unfold Lib.toLowerA
    rw [List.map_cons]
    by_cases h1 : Lib.lowerB b = b
    · by_cases h2 : r.map Lib.lowerB = r
      · simp [h1, h2]
      · simp [h1, h2]
    · simp [h1]

theorem up_map (l : List UInt8) : Lib.toUpperA l = l.map Lx.up := by unfold Lib.toUpperA; exact List.map_congr_left fun b _ => upper_up b

theorem name_l0 (s : ByteArray) (hs : s.size ≤ 20) : ∀ (d i k : Nat), i + d = s.size → d + 6 ≤ k → (∀ b ∈ s.data.toList.take i, Lx.isWord b = true) →
    lex_IsName.l0 k s (s.size : Int) (i : Int) = some ((s.data.toList.drop i).all Lx.isWord && s.data.toList.all nu && !isKw (s.data.toList.map Lx.up)) := by
  have hsl : s.data.toList.length = s.size := by simp
  intro d
  induction d with
  | zero =>
    intro i k hi hk hw
    obtain ⟨k, rfl⟩ : ∃ m, k = m + 1 := ⟨k - 1, by omega⟩
    have e : s.data.toList.drop i = [] := List.drop_eq_nil_of_le (by omega)
    rw [List.take_of_length_le (by omega)] at hw
    have ha : ascii s = true := by
      unfold ascii
      rw [List.all_eq_true]
      intro b hb
      have h1 := word_low b
      rw [hw b hb, Bool.true_and] at h1
      simpa using h1
    rw [lex_IsName.l0, if_neg (by omega), strings_ToLower.f, if_pos ⟨by omega, ha⟩, Option.bind_some, e, Lib.toList_data, Lib.toList_data, ← map_nu]
    by_cases hl : Lib.toLowerA s.data.toList = s.data.toList
    · rw [if_pos (by show s.data.toList = Lib.toLowerA s.data.toList; exact hl.symm), strings_ToUpper.f, if_pos ⟨by omega, ha⟩, Option.bind_some, lex_IsKeyword.f, Option.bind_some, decide_eq_true hl]
      show some (!isKw (Lib.toUpperA s.data.toList)) = _
      rw [up_map]
      rfl
    · rw [if_neg (by show ¬ s.data.toList = Lib.toLowerA s.data.toList; exact fun h => hl h.symm), decide_eq_false hl]
      rfl
  | succ d ih =>
    intro i k hi hk hw
    obtain ⟨k, rfl⟩ : ∃ m, k = m + 1 := ⟨k - 1, by omega⟩
    have hlt : i < s.size := by omega
    rw [lex_IsName.l0, if_pos (by omega), if_pos (by omega), if_pos (by omega), bt_nat hlt, cls_k _ k (by omega), Option.bind_some, wrap_nat i (by omega), drop_at hlt, List.all_cons]
    have hnext : Lx.isWord s[i] = true → ∀ b ∈ s.data.toList.take (i + 1), Lx.isWord b = true := by
      intro h b hb
      rw [List.take_add_one, List.getElem?_eq_getElem (by omega : i < s.data.toList.length)] at hb
      rcases List.mem_append.1 hb with h1 | h1
      · exact hw b h1
      · have : b = s[i] := by simp at h1; exact h1
        rw [this]; exact h
    by_cases h2 : cls s[i] = 2
    · have hW : Lx.isWord s[i] = true := by unfold Lx.isWord; rw [← clsL, decide_eq_true h2]; rfl
      rw [if_pos h2, ih (i + 1) k (by omega) (by omega) (hnext hW), hW, Bool.true_and]
    · by_cases h3 : cls s[i] = 3
      · have hW : Lx.isWord s[i] = true := by unfold Lx.isWord; rw [← clsD, decide_eq_true h3, Bool.or_true]
        rw [if_neg h2, if_pos h3, ih (i + 1) k (by omega) (by omega) (hnext hW), hW, Bool.true_and]
      · have hW : Lx.isWord s[i] = false := by unfold Lx.isWord; rw [← clsL, ← clsD, decide_eq_false h2, decide_eq_false h3]; rfl
        rw [if_neg h2, if_neg h3, hW]
        rfl

theorem isNm_eq (b : UInt8) (r : List UInt8) : Lx.isNm isKw (b :: r) = (decide ((b :: r).length ≤ 20) && Lx.isLet b && ((b :: r).all Lx.isWord && (b :: r).all nu) && !isKw ((b :: r).map Lx.up)) := by
  have h : ∀ l : List UInt8, l.all (fun b => Lx.isWord b && !(decide (65 ≤ b.toNat) && decide (b.toNat ≤ 90))) = (l.all Lx.isWord && l.all nu) := by
    intro l
    induction l with
    | nil => rfl
    | cons c t ih =>
      rw [List.all_cons, List.all_cons, List.all_cons, ih]
      show (Lx.isWord c && nu c && _) = _
      cases Lx.isWord c <;> cases nu c <;> simp
  unfold Lx.isNm
  rw [h]
  simp

theorem name_is (s : ByteArray) (k : Nat) (hk : 40 ≤ k) : lex_IsName.f k s = some (Lx.isNm isKw s.data.toList) := by
  have hsl : s.data.toList.length = s.size := by simp
  unfold lex_IsName.f
  rw [Lib.toList_data]
  obtain ⟨k, rfl⟩ : ∃ m, k = m + 1 := ⟨k - 1, by omega⟩
  cases hl : s.data.toList with
  | nil => rw [if_pos rfl, lex_IsName.j0, if_pos rfl]; rfl
  | cons b r =>
    have h0 : 0 < s.size := by rw [← hsl, hl]; exact Nat.succ_pos _
    rw [if_neg (by simp)]
    by_cases h20 : s.size ≤ 20
    · have hb : s[0] = b := by
        have := drop_at h0
        rw [List.drop_zero, hl] at this
        exact (List.cons.inj this).1.symm
      have hbt := bt_nat h0
      rw [show ((0 : Nat) : Int) = (0 : Int) from rfl, hb] at hbt
      rw [if_neg (by omega), if_pos (by omega), hbt, cls_k _ _ (by omega), Option.bind_some, lex_IsName.j0, isNm_eq]
      have hL := clsL b
      have h1 := name_l0 s h20 s.size 0 k (by omega) (by omega) (by simp)
      rw [show ((0 : Nat) : Int) = (0 : Int) from rfl, List.drop_zero, hl] at h1
      have hlen : (b :: r).length ≤ 20 := by rw [← hl, hsl]; exact h20
      rw [decide_eq_true hlen]
      by_cases h2 : cls b = 2
      · rw [if_neg (by simp [h2]), h1, ← hL, decide_eq_true h2]
        rfl
      · rw [if_pos (by simpa using h2), ← hL, decide_eq_false h2]
        rfl
    · have hlen : ¬ (b :: r).length ≤ 20 := by rw [← hl, hsl]; exact h20
      rw [if_pos (by omega), lex_IsName.j0, if_pos rfl, isNm_eq, decide_eq_false hlen]
      rfl

end Go.Proofs.YthgfdnffnbclpaaGreatDoor.PAll
namespace Go.Proofs.YthgfdnffnbclpaaGreatDoor.PAll
open Go.RowKit Go.Proofs.YthgfdnffnbclpaaGreatDoorW.PrintWords Go.Proofs.YthgfdnffnbclpaaGreatDoorW.PrintLast Go.Proofs.YthgfdnffnbclpaaGreatDoorW.PrintMore

def nmB (s : ByteArray) : Bool := Lx.isNm isKw s.data.toList
def colB (c : S78) : Bool := nmB c.f0 && (if c.f1 = 1 then decide (c.f3 ≤ c.f4) else if c.f1 = 2 then decide (c.f3 = 0) && (decide (0 ≤ c.f4) && decide (c.f4 ≤ 100)) else if c.f1 = 3 then decide (c.f3 = 0) && (c.f4 == 0) else false)
def risG (l : List Int) (n : Int) : Nat → Nat → Bool
  | 0, _ => true
  | g + 1, i => if rd l (i : Int) < 0 then false else if rd l (i : Int) ≥ n then false else if 0 < i ∧ rd l (i : Int) ≤ rd l ((i - 1 : Nat) : Int) then false else risG l n g (i + 1)
def risB (l : List Int) (n : Int) : Bool := risG l n l.length 0

theorem col_s (c : S78) (k : Nat) (hk : 40 ≤ k) : scheme_validColumn.f k c.f0 c.f1 c.f2 c.f3 c.f4 = some (colB c) := by
  unfold scheme_validColumn.f colB
  rw [name_is _ k hk]
  show _ = some (nmB c.f0 && _)
  have e : Lx.isNm isKw c.f0.data.toList = nmB c.f0 := rfl
  rw [e]
  cases nmB c.f0 <;> simp only [Option.bind_some, if_true, Bool.true_and, Bool.false_and]
  · split <;> first | rfl | (split <;> first | rfl | (split <;> rfl))
  · by_cases h1 : c.f1 = 1
    · rw [if_pos h1, if_pos h1]
    · rw [if_neg h1, if_neg h1]
      by_cases h2 : c.f1 = 2
      · rw [if_pos h2, if_pos h2]
        by_cases h3 : c.f3 = 0
        · rw [if_pos h3, decide_eq_true h3]
          by_cases h4 : 0 ≤ c.f4
          · rw [if_pos h4, decide_eq_true h4]; rfl
          · rw [if_neg h4, decide_eq_false h4]; rfl
        · rw [if_neg h3, decide_eq_false h3]; rfl
      · rw [if_neg h2, if_neg h2]
        by_cases h2 : c.f1 = 3
        · rw [if_pos h2, if_pos h2]
          by_cases h3 : c.f3 = 0
          · rw [if_pos h3, decide_eq_true h3]; rfl
          · rw [if_neg h3, decide_eq_false h3]; rfl
        · rw [if_neg h2, if_neg h2]
theorem ba_eq (s t : ByteArray) : s.toList = t.toList ↔ s = t := by
  rw [Lib.toList_data, Lib.toList_data]
  constructor
  · intro h
    cases s; cases t
    rename_i a b
    cases a; cases b
    simp at h
    rw [h]
  · intro h; rw [h]
theorem rdT78 {l : List S78} {i : Nat} (h : i < l.length) : rd_T78 l (i : Int) = l[i] := by unfold rd_T78; simp [List.getD, h]
theorem w1 (n : Nat) (h : n < 9223372036854775807) : wrap64 ((n : Int) + 1) = ((n + 1 : Nat) : Int) := by unfold wrap64; omega
theorem w2 (n : Nat) (h0 : 0 < n) (h : n < 9223372036854775807) : wrap64 ((n : Int) - 1) = ((n - 1 : Nat) : Int) := by unfold wrap64; omega

theorem ris_s (l : List Int) (n : Int) (hl : l.length ≤ 9223372036854775807) : ∀ (d i k : Nat), i + d = l.length → d < k → scheme_rising.l0 k l n l (l.length : Int) (i : Int) = some (risG l n d i) := by
  intro d
  induction d with
  | zero =>
    intro i k hi hk
    obtain ⟨k, rfl⟩ : ∃ m, k = m + 1 := ⟨k - 1, by omega⟩
    rw [scheme_rising.l0, if_neg (by omega)]; rfl
  | succ d ih =>
    intro i k hi hk
    obtain ⟨k, rfl⟩ : ∃ m, k = m + 1 := ⟨k - 1, by omega⟩
    rw [scheme_rising.l0, if_pos (by omega), if_pos (by omega), if_pos (by omega), risG, w1 i (by omega), ih (i + 1) k (by omega) (by omega)]
    by_cases q1 : rd l (i : Int) < 0
    · rw [if_pos q1, if_pos q1]
    rw [if_neg q1, if_neg q1]
    by_cases q2 : rd l (i : Int) ≥ n
    · rw [if_pos q2, if_pos q2]
    rw [if_neg q2, if_neg q2]
    by_cases q3 : 0 < i
    · rw [if_pos (by omega), w2 i q3 (by omega), if_pos (by omega), if_pos (by omega)]
      by_cases q4 : rd l (i : Int) ≤ rd l ((i - 1 : Nat) : Int)
      · rw [if_pos q4, if_pos ⟨q3, q4⟩]
      · rw [if_neg q4, if_neg (fun h => q4 h.2)]
    · rw [if_neg (by omega), if_neg (fun h => q3 h.1)]
theorem rising_s (l : List Int) (n : Int) (hl : l.length ≤ 9223372036854775807) (k : Nat) (hk : l.length < k) : scheme_rising.f k l n = some (risB l n) := ris_s l n hl l.length 0 k (by omega) hk
end Go.Proofs.YthgfdnffnbclpaaGreatDoor.PAll
namespace Go.Proofs.YthgfdnffnbclpaaGreatDoor.PAll
open Go.RowKit Go.Proofs.YthgfdnffnbclpaaGreatDoorW.PrintWords Go.Proofs.YthgfdnffnbclpaaGreatDoorW.PrintLast Go.Proofs.YthgfdnffnbclpaaGreatDoorW.PrintMore

def keyB (n : Int) (k : List Int) : Bool := if (k.length : Int) = 0 then false else risB k n
def keysB (n : Int) : List (List Int) → Bool
  | [] => true
  | k :: r => if keyB n k = true then keysB n r else false
theorem rdL6 {l : List (List Int)} {i : Nat} (h : i < l.length) : rd_L6 l (i : Int) = l[i] := by unfold rd_L6; simp [List.getD, h]
theorem rdT75 {l : List S75} {i : Nat} (h : i < l.length) : rd_T75 l (i : Int) = l[i] := by unfold rd_T75; simp [List.getD, h]
theorem rdT49 {l : List S49} {i : Nat} (h : i < l.length) : rd_T49 l (i : Int) = l[i] := by unfold rd_T49; simp [List.getD, h]
def refFindG (nm : ByteArray) : Nat → List S49 → Int × Bool
  | _, [] => (0, false)
  | i, t :: l => if t.f0 = nm then ((i : Int), true) else refFindG nm (i + 1) l
end Go.Proofs.YthgfdnffnbclpaaGreatDoor.PAll
namespace Go.Proofs.YthgfdnffnbclpaaGreatDoor.PAll
open Go.RowKit Go.Proofs.YthgfdnffnbclpaaGreatDoorW.PrintWords Go.Proofs.YthgfdnffnbclpaaGreatDoorW.PrintLast Go.Proofs.YthgfdnffnbclpaaGreatDoorW.PrintMore

/-! ### scheme_badRef -/
def scheme_badRef.f (k : Nat) (l0_0 : List Int) (a0_1 : Int) (a0_2 : Int) (l1 : List (S49)) (a2_0 : ByteArray) (l2_1 : List (S78)) (l2_2 : List (List Int)) (l2_3 : List (S75)) (l2_4 : List Int) : Option (Bool) := (scheme_validRef.f k l1 a2_0 l2_1 l2_2 l2_3 l2_4 l0_0 a0_1 a0_2).bind fun t275 => (some (!t275))
/-! ### scheme_idxBadRef -/
def scheme_idxBadRef.l0 : Nat → List (S75) → List (S49) → Int → Int → ByteArray → List (S78) → List (List Int) → List (S75) → List Int → Option (Int)
  | 0, _, _, _, _, _, _, _, _, _ => none
  | k + 1, x0, x1, x7, x8, x277000, x277001, x277002, x277003, x277004 => if x8 < x7 then (if 0 ≤ x8 then (if x8 < (x0.length : Int) then ((scheme_badRef.f k ((rd_T75 x0 x8).f0) ((rd_T75 x0 x8).f1) ((rd_T75 x0 x8).f2) x1 x277000 x277001 x277002 x277003 x277004).bind fun t278 => (if t278 = true then (some x8) else (scheme_idxBadRef.l0 k x0 x1 x7 (wrap64 (x8 + 1)) x277000 x277001 x277002 x277003 x277004))) else (none)) else (none)) else (some (-1))
def scheme_idxBadRef.f (k : Nat) (l0 : List (S75)) (l1 : List (S49)) (a2_0 : ByteArray) (l2_1 : List (S78)) (l2_2 : List (List Int)) (l2_3 : List (S75)) (l2_4 : List Int) : Option (Int) := scheme_idxBadRef.l0 k l0 l1 (l0.length : Int) 0 a2_0 l2_1 l2_2 l2_3 l2_4
/-! ### scheme_anyBadRef -/
def scheme_anyBadRef.f (k : Nat) (l0 : List (S75)) (l1 : List (S49)) (a2_0 : ByteArray) (l2_1 : List (S78)) (l2_2 : List (List Int)) (l2_3 : List (S75)) (l2_4 : List Int) : Option (Bool) := (scheme_idxBadRef.f k l0 l1 a2_0 l2_1 l2_2 l2_3 l2_4).bind fun t279 => (some (decide (t279 ≥ 0)))
set_option maxRecDepth 100000 in
theorem badRef_walk (k : Nat) (A0_0 : Option Addr) (c0_0 : Nat) (l0_0 : List Int) (a0_1 : Int) (a0_2 : Int) (A1 : Option Addr) (c1 : Nat) (l1 : List S49) (a2_0 : ByteArray) (A2_1 : Option Addr) (c2_1 : Nat) (l2_1 : List S78) (A2_2 : Option Addr) (c2_2 : Nat) (l2_2 : List (List Int)) (A2_3 : Option Addr) (c2_3 : Nat) (l2_3 : List S75) (A2_4 : Option Addr) (c2_4 : Nat) (l2_4 : List Int) (r : Bool) (gb gt : Nat) (w : World)
    (hr0_0 : Kd.C (Kd.int .i64) w A0_0 l0_0.length l0_0) (hc0_0 : l0_0.length ≤ c0_0) (hr1 : Kd.C k49 w A1 l1.length l1) (hc1 : l1.length ≤ c1) (hr2_1 : Kd.C k78 w A2_1 l2_1.length l2_1) (hc2_1 : l2_1.length ≤ c2_1) (hr2_2 : Kd.C (Kd.slice 3 (Kd.int .i64)) w A2_2 l2_2.length l2_2) (hc2_2 : l2_2.length ≤ c2_2) (hr2_3 : Kd.C k75 w A2_3 l2_3.length l2_3) (hc2_3 : l2_3.length ≤ c2_3) (hr2_4 : Kd.C (Kd.int .i64) w A2_4 l2_4.length l2_4) (hc2_4 : l2_4.length ≤ c2_4)
    (hb : w.heap[gb]? = some (.cells #[.slice A1 l1.length c1] 23 (0, 0))) (ht : w.heap[gt]? = some (.cells #[.string a2_0, .slice A2_1 l2_1.length c2_1, .slice A2_2 l2_2.length c2_2, .slice A2_3 l2_3.length c2_3, .slice A2_4 l2_4.length c2_4] 72 (0, 0)))
    (h : scheme_badRef.f k l0_0 a0_1 a0_2 l1 a2_0 l2_1 l2_2 l2_3 l2_4 = some r) :
    Calls Tryz.prog 132 #[.agg #[.slice A0_0 l0_0.length c0_0, .int .i64 a0_1, .int .i64 a0_2], .pointer (some ⟨gb, 0, none⟩), .pointer (some ⟨gt, 0, none⟩)] w fun e w' => e = .returned (.bool r) ∧ Below w.heap.size w w' := by
  unfold scheme_badRef.f at h
  obtain ⟨b, hv, hr⟩ := Option.bind_eq_some_iff.mp h
  obtain rfl := Option.some.inj hr
  have hb0 : ∀ o, (w.alloc o).cell? ⟨gb, 0, none⟩ = some (.slice A1 l1.length c1) := fun o => cell_al o ((blk_cell hb 0).trans rfl)
  have ht0 : ∀ o, (w.alloc o).cell? ⟨gt, 0, none⟩ = some (.string a2_0) := fun o => cell_al o ((blk_cell ht 0).trans rfl)
  have ht1 : ∀ o, (w.alloc o).cell? ⟨gt, 1, none⟩ = some (.slice A2_1 l2_1.length c2_1) := fun o => cell_al o ((blk_cell ht 1).trans rfl)
  have ht2 : ∀ o, (w.alloc o).cell? ⟨gt, 2, none⟩ = some (.slice A2_2 l2_2.length c2_2) := fun o => cell_al o ((blk_cell ht 2).trans rfl)
  have ht3 : ∀ o, (w.alloc o).cell? ⟨gt, 3, none⟩ = some (.slice A2_3 l2_3.length c2_3) := fun o => cell_al o ((blk_cell ht 3).trans rfl)
  have ht4 : ∀ o, (w.alloc o).cell? ⟨gt, 4, none⟩ = some (.slice A2_4 l2_4.length c2_4) := fun o => cell_al o ((blk_cell ht 4).trans rfl)
  have HV : Aside0 (∀ o, Calls Tryz.prog 133 #[.slice A1 l1.length c1, .agg #[.string a2_0, .slice A2_1 l2_1.length c2_1, .slice A2_2 l2_2.length c2_2, .slice A2_3 l2_3.length c2_3, .slice A2_4 l2_4.length c2_4], .agg #[.slice A0_0 l0_0.length c0_0, .int .i64 a0_1, .int .i64 a0_2]] (w.alloc o) fun e w' => e = .returned (.bool b) ∧ Below (w.alloc o).heap.size (w.alloc o) w') := ⟨fun o => by
    have hA : Below w.heap.size w (w.alloc o) := (Below.refl _ _).alloc (Nat.le_refl _) _
    exact scheme_validRef.calls k A1 c1 l1 a2_0 A2_1 c2_1 l2_1 A2_2 c2_2 l2_2 A2_3 c2_3 l2_3 A2_4 c2_4 l2_4 A0_0 c0_0 l0_0 a0_1 a0_2 b _ (Kd.C_below hr1 hA) hc1 (Kd.C_below hr2_1 hA) hc2_1 (Kd.C_below hr2_2 hA) hc2_2 (Kd.C_below hr2_3 hA) hc2_3 (Kd.C_below hr2_4 hA) hc2_4 (Kd.C_below hr0_0 hA) hc0_0 hv⟩
  clear hr0_0 hr1 hr2_1 hr2_2 hr2_3 hr2_4 h hv hr hb ht
  go_enter Tryz.func132, Tryz.ntmps132
  go_wp2_with (go_at_call 133; refine (HV.out _).mono ?_; rintro e w1 ⟨rfl, hb1⟩)
  go_ret
  exact ⟨rfl, below_step ((Below.refl _ _).alloc (Nat.le_refl _) _) hb1⟩

set_option maxRecDepth 100000 in
theorem idxBad_walk (k : Nat) (A0 : Option Addr) (c0 : Nat) (l0 : List S75) (A1 : Option Addr) (c1 : Nat) (l1 : List S49) (a2_0 : ByteArray) (A2_1 : Option Addr) (c2_1 : Nat) (l2_1 : List S78) (A2_2 : Option Addr) (c2_2 : Nat) (l2_2 : List (List Int)) (A2_3 : Option Addr) (c2_3 : Nat) (l2_3 : List S75) (A2_4 : Option Addr) (c2_4 : Nat) (l2_4 : List Int) (r : Int) (gb gt : Nat) (w : World)
    (hr0 : Kd.C k75 w A0 l0.length l0) (hc0 : l0.length ≤ c0) (hr1 : Kd.C k49 w A1 l1.length l1) (hc1 : l1.length ≤ c1) (hr2_1 : Kd.C k78 w A2_1 l2_1.length l2_1) (hc2_1 : l2_1.length ≤ c2_1) (hr2_2 : Kd.C (Kd.slice 3 (Kd.int .i64)) w A2_2 l2_2.length l2_2) (hc2_2 : l2_2.length ≤ c2_2) (hr2_3 : Kd.C k75 w A2_3 l2_3.length l2_3) (hc2_3 : l2_3.length ≤ c2_3) (hr2_4 : Kd.C (Kd.int .i64) w A2_4 l2_4.length l2_4) (hc2_4 : l2_4.length ≤ c2_4)
    (hb : w.heap[gb]? = some (.cells #[.slice A1 l1.length c1] 23 (0, 0))) (ht : w.heap[gt]? = some (.cells #[.string a2_0, .slice A2_1 l2_1.length c2_1, .slice A2_2 l2_2.length c2_2, .slice A2_3 l2_3.length c2_3, .slice A2_4 l2_4.length c2_4] 72 (0, 0)))
    (h : scheme_idxBadRef.f k l0 l1 a2_0 l2_1 l2_2 l2_3 l2_4 = some r) :
    Calls Tryz.prog 160 #[.slice A0 l0.length c0, .func (.func 132) #[] #[.pointer (some ⟨gb, 0, none⟩), .pointer (some ⟨gt, 0, none⟩)]] w fun e w' => e = .returned (.int .i64 r) ∧ Below w.heap.size w w' := by
  have HC := Aside0.mk hr0
  have HH : Aside0 (scheme_idxBadRef.l0 k l0 l1 (l0.length : Int) 0 a2_0 l2_1 l2_2 l2_3 l2_4 = some r) := ⟨h⟩
  have HB0 := Aside0.mk (Below.refl w.heap.size w)
  have HV : Aside0 (∀ k A c l a b r W, Below w.heap.size w W → Kd.C (Kd.int .i64) w A l.length l → l.length ≤ c → scheme_badRef.f k l a b l1 a2_0 l2_1 l2_2 l2_3 l2_4 = some r →
      Calls Tryz.prog 132 #[.agg #[.slice A l.length c, .int .i64 a, .int .i64 b], .pointer (some ⟨gb, 0, none⟩), .pointer (some ⟨gt, 0, none⟩)] W fun e w' => e = .returned (.bool r) ∧ Below W.heap.size W w') := ⟨fun k A c l a b r W hW hl hlc hf =>
    badRef_walk k A c l a b A1 c1 l1 a2_0 A2_1 c2_1 l2_1 A2_2 c2_2 l2_2 A2_3 c2_3 l2_3 A2_4 c2_4 l2_4 r gb gt W (Kd.C_below hl hW) hlc (Kd.C_below hr1 hW) hc1 (Kd.C_below hr2_1 hW) hc2_1 (Kd.C_below hr2_2 hW) hc2_2 (Kd.C_below hr2_3 hW) hc2_3 (Kd.C_below hr2_4 hW) hc2_4 ((hW.block _ (blk_lt hb)).trans hb) ((hW.block _ (blk_lt ht)).trans ht) hf⟩
  clear hr0 hr1 hr2_1 hr2_2 hr2_3 hr2_4 h hb ht
  go_enter Tryz.func160, Tryz.ntmps160
  go_wp2
  go_loopg [8] k (fun gk v8 wx => ∃ (i : Int), v8 = .int .i64 i ∧ Aside0 (Below w.heap.size w wx) ∧ Aside0 (scheme_idxBadRef.l0 gk l0 l1 (l0.length : Int) i a2_0 l2_1 l2_2 l2_3 l2_4 = some r))
  case atStart => exact ⟨0, rfl, HB0, HH⟩
  case round =>
    clear HB0 HH
    obtain ⟨i, rfl, HW, HP⟩ := hrel
    cases gk with
    | zero => exact absurd HP.out (by simp [scheme_idxBadRef.l0])
    | succ gk =>
      have hp := HP.out
      simp only [scheme_idxBadRef.l0] at hp
      by_cases hii : i < (l0.length : Int)
      · rw [if_pos hii] at hp
        by_cases hi0 : 0 ≤ i
        case neg => rw [if_neg hi0] at hp; cases hp
        rw [if_pos hi0, if_pos hii] at hp
        obtain ⟨b, hv, hp2⟩ := Option.bind_eq_some_iff.mp hp
        clear hp HP
        have HP := Aside0.mk hp2
        clear hp2
        obtain ⟨ad, Ac, cc, hA, hx0, hx1, hx2, hcc, hCc⟩ := at_T75 HC.out i hi0 hii
        cases hA
        have hy0 := (HW.out.cell (World.block_lt_of_cell? w _ hx0)).trans hx0
        have hy1 := (HW.out.cell (World.block_lt_of_cell? w _ hx1)).trans hx1
        have hy2 := (HW.out.cell (World.block_lt_of_cell? w _ hx2)).trans hx2
        have HN := Aside0.mk (HV.out gk Ac cc _ _ _ b wr HW.out hCc hcc hv)
        clear hx0 hx1 hx2 hCc hcc hv HV
        generalize rd_T75 l0 i = x at *
        cases b with
        | true =>
          have hp := HP.out
          rw [if_pos rfl] at hp
          obtain rfl := Option.some.inj hp
          clear hp
          go_wp2_with (go_at_call 132; refine HN.out.mono ?_; rintro e w1 ⟨rfl, hb1⟩)
          go_ret
          exact ⟨by first | rfl | (simp; done), below_step HW.out hb1⟩
        | false =>
          have hp := HP.out
          rw [if_neg (by decide)] at hp
          have HP2 := Aside0.mk hp
          clear hp
          go_wp2_with (go_at_call 132; refine HN.out.mono ?_; rintro e w1 ⟨rfl, hb1⟩)
          go_roundg gk
          case measure => omega
          case rel => exact ⟨wrap64 (i + 1), by first | rfl | (simp; done), ⟨below_step HW.out hb1⟩, HP2⟩
      · rw [if_neg hii] at hp
        obtain rfl := Option.some.inj hp
        clear hp
        go_wp2
        go_ret
        exact ⟨by first | rfl | (simp; done), HW.out⟩
end Go.Proofs.YthgfdnffnbclpaaGreatDoor.PAll
namespace Go.Proofs.YthgfdnffnbclpaaGreatDoor.PAll
open Go.RowKit Go.Proofs.YthgfdnffnbclpaaGreatDoorW.PrintWords Go.Proofs.YthgfdnffnbclpaaGreatDoorW.PrintLast Go.Proofs.YthgfdnffnbclpaaGreatDoorW.PrintMore
attribute [local go_sem] max2_int min2_int max_two min_two max_three min_three max_four min_four   -- for this text's walks alone

attribute [local go_sem high] eqA64
/-! ### scheme_Valid_1: function 25 -/
def scheme_Valid_1.f (a0_0 : ByteArray) (l0_1 : List (S78)) (l0_2 : List (List Int)) (l0_3 : List (S75)) (l0_4 : List Int) : Option (ByteArray) := some a0_0
set_option maxHeartbeats 8000000 in
set_option maxRecDepth 100000 in
theorem scheme_Valid_1.calls (a0_0 : ByteArray) (A0_1 : Option Addr) (c0_1 : Nat) (l0_1 : List (S78)) (A0_2 : Option Addr) (c0_2 : Nat) (l0_2 : List (List Int)) (A0_3 : Option Addr) (c0_3 : Nat) (l0_3 : List (S75)) (A0_4 : Option Addr) (c0_4 : Nat) (l0_4 : List Int) (r : ByteArray) (w : World) (hr0_1 : Kd.C k78 w A0_1 l0_1.length l0_1) (hc0_1 : l0_1.length ≤ c0_1) (hr0_2 : Kd.C (Kd.slice 3 (Kd.int .i64)) w A0_2 l0_2.length l0_2) (hc0_2 : l0_2.length ≤ c0_2) (hr0_3 : Kd.C k75 w A0_3 l0_3.length l0_3) (hc0_3 : l0_3.length ≤ c0_3) (hr0_4 : Kd.C (Kd.int .i64) w A0_4 l0_4.length l0_4) (hc0_4 : l0_4.length ≤ c0_4) (h : scheme_Valid_1.f a0_0 l0_1 l0_2 l0_3 l0_4 = some r) :
    Calls Tryz.prog 76 #[.agg #[.string a0_0, .slice A0_1 l0_1.length c0_1, .slice A0_2 l0_2.length c0_2, .slice A0_3 l0_3.length c0_3, .slice A0_4 l0_4.length c0_4]] w fun e w' => e = .returned (.string r) ∧ Below w.heap.size w w' := by
  have hu49 := Tryz.underlying72
  have HR0_1 := Aside0.mk hr0_1
  have HC0_1 := Aside0.mk hc0_1
  clear hr0_1 hc0_1
  have HR0_2 := Aside0.mk hr0_2
  have HC0_2 := Aside0.mk hc0_2
  clear hr0_2 hc0_2
  have HR0_3 := Aside0.mk hr0_3
  have HC0_3 := Aside0.mk hc0_3
  clear hr0_3 hc0_3
  have HR0_4 := Aside0.mk hr0_4
  have HC0_4 := Aside0.mk hc0_4
  clear hr0_4 hc0_4
  have HB := Aside0.mk (Below.refl w.heap.size w)
  have H : (some a0_0) = some r := h
  clear h
  obtain rfl := Option.some.inj H
  go_enter Tryz.func76, Tryz.ntmps76
  go_wp2_with (first | ((with_reducible refine gate_dst (N := 1) rfl ?_); refine box_event ?hg (N := 1) ?hd (cs := #[.string a0_0, .slice A0_1 l0_1.length c0_1, .slice A0_2 l0_2.length c0_2, .slice A0_3 l0_3.length c0_3, .slice A0_4 l0_4.length c0_4]) (t := 72) ?hr ?_; (case hd => rfl); (case hg => rfl); (case hr => first | (go_simp; done) | (go_simp; rfl)); intro gb112 hg w2 hbox hb; have n0_ := Aside0.mk (below_step (by repeat (first | (with_reducible first | exact HB.out | apply below_alloc | apply pw_below_drewN | apply below_drew1) | exact HB.out)) hb); have n1_ := Aside0.mk (hbox); have n2_ := Aside0.mk ((by rw [hg]; exact (below_size (by repeat (first | (with_reducible first | exact HB.out | apply below_alloc | apply pw_below_drewN | apply below_drew1) | exact HB.out))) : w.heap.size ≤ gb112)); have n3_ := Aside0.mk ((by rw [hg]; exact (below_size (by repeat (first | (with_reducible first | exact HB.out | apply below_alloc | apply pw_below_drewN | apply below_drew1) | exact HB.out))) : w.heap.size ≤ gb112)); clear HB; have HB := n0_; have BK112 := n1_; have GW112 := n2_; have GE112 := n3_; clear n0_ n1_ n2_ n3_; clear hb hbox hg; have hcz3_0 : w2.cell? ⟨gb112, 0, none⟩ = some (.string a0_0) := (blk_cell BK112.out 0).trans rfl; have hcz3_1 : w2.cell? ⟨gb112, 1, none⟩ = some (.slice A0_1 l0_1.length c0_1) := (blk_cell BK112.out 1).trans rfl; have hcz3_2 : w2.cell? ⟨gb112, 2, none⟩ = some (.slice A0_2 l0_2.length c0_2) := (blk_cell BK112.out 2).trans rfl; have hcz3_3 : w2.cell? ⟨gb112, 3, none⟩ = some (.slice A0_3 l0_3.length c0_3) := (blk_cell BK112.out 3).trans rfl; have hcz3_4 : w2.cell? ⟨gb112, 4, none⟩ = some (.slice A0_4 l0_4.length c0_4) := (blk_cell BK112.out 4).trans rfl; have hfz3_0 := blk_frozen BK112.out 0; have hfz3_1 := blk_frozen BK112.out 1; have hfz3_2 := blk_frozen BK112.out 2; have hfz3_3 := blk_frozen BK112.out 3; have hfz3_4 := blk_frozen BK112.out 4))
  go_ret
  exact ⟨by first | rfl | (simp [errW_none, errW_some] <;> rfl) | (simp [*, errW_none, errW_some] <;> rfl), by repeat (first | (with_reducible first | exact HB.out | apply below_alloc | apply pw_below_drewN | apply below_drew1 | refine below_set ?_ GE112.out) | exact HB.out)⟩

/-! ### scheme_validTable_1: function 48 -/
def scheme_validTable_1.f (a0_0 : ByteArray) (a0_1 : Int) (a0_2 : Bool) (a0_3 : Int) (a0_4 : Int) : Option (ByteArray) := some a0_0
set_option maxHeartbeats 8000000 in
set_option maxRecDepth 100000 in
theorem scheme_validTable_1.calls (a0_0 : ByteArray) (a0_1 : Int) (a0_2 : Bool) (a0_3 : Int) (a0_4 : Int) (r : ByteArray) (w : World) (h : scheme_validTable_1.f a0_0 a0_1 a0_2 a0_3 a0_4 = some r) :
    Calls Tryz.prog 129 #[.agg #[.string a0_0, .int .u8 a0_1, .bool a0_2, .int .i64 a0_3, .int .i64 a0_4]] w fun e w' => e = .returned (.string r) ∧ Below w.heap.size w w' := by
  have hu78 := Tryz.underlying83
  have HB := Aside0.mk (Below.refl w.heap.size w)
  have H : (some a0_0) = some r := h
  clear h
  obtain rfl := Option.some.inj H
  go_enter Tryz.func129, Tryz.ntmps129
  go_wp2_with (first | ((with_reducible refine gate_dst (N := 1) rfl ?_); refine box_event ?hg (N := 1) ?hd (cs := #[.string a0_0, .int .u8 a0_1, .bool a0_2, .int .i64 a0_3, .int .i64 a0_4]) (t := 83) ?hr ?_; (case hd => rfl); (case hg => rfl); (case hr => first | (go_simp; done) | (go_simp; rfl)); intro gb113 hg w2 hbox hb; have n0_ := Aside0.mk (below_step (by repeat (first | (with_reducible first | exact HB.out | apply below_alloc | apply pw_below_drewN | apply below_drew1) | exact HB.out)) hb); have n1_ := Aside0.mk (hbox); have n2_ := Aside0.mk ((by rw [hg]; exact (below_size (by repeat (first | (with_reducible first | exact HB.out | apply below_alloc | apply pw_below_drewN | apply below_drew1) | exact HB.out))) : w.heap.size ≤ gb113)); have n3_ := Aside0.mk ((by rw [hg]; exact (below_size (by repeat (first | (with_reducible first | exact HB.out | apply below_alloc | apply pw_below_drewN | apply below_drew1) | exact HB.out))) : w.heap.size ≤ gb113)); clear HB; have HB := n0_; have BK113 := n1_; have GW113 := n2_; have GE113 := n3_; clear n0_ n1_ n2_ n3_; clear hb hbox hg; have hcz3_0 : w2.cell? ⟨gb113, 0, none⟩ = some (.string a0_0) := (blk_cell BK113.out 0).trans rfl; have hcz3_1 : w2.cell? ⟨gb113, 1, none⟩ = some (.int .u8 a0_1) := (blk_cell BK113.out 1).trans rfl; have hcz3_2 : w2.cell? ⟨gb113, 2, none⟩ = some (.bool a0_2) := (blk_cell BK113.out 2).trans rfl; have hcz3_3 : w2.cell? ⟨gb113, 3, none⟩ = some (.int .i64 a0_3) := (blk_cell BK113.out 3).trans rfl; have hcz3_4 : w2.cell? ⟨gb113, 4, none⟩ = some (.int .i64 a0_4) := (blk_cell BK113.out 4).trans rfl; have hfz3_0 := blk_frozen BK113.out 0; have hfz3_1 := blk_frozen BK113.out 1; have hfz3_2 := blk_frozen BK113.out 2; have hfz3_3 := blk_frozen BK113.out 3; have hfz3_4 := blk_frozen BK113.out 4))
  go_ret
  exact ⟨by first | rfl | (simp [errW_none, errW_some] <;> rfl) | (simp [*, errW_none, errW_some] <;> rfl), by repeat (first | (with_reducible first | exact HB.out | apply below_alloc | apply pw_below_drewN | apply below_drew1 | refine below_set ?_ GE113.out) | exact HB.out)⟩

/-! ### GIVEN api_Value: function 36 -/

-- NOT PRINTED: function 56 (scheme_find_1)

-- NOT PRINTED: function 51 (scheme_validTable_2)

/-! ### scheme_mapTableName: function 5024 -/
def scheme_mapTableName.l0 : Nat → List ByteArray → List (S49) → Int → Int → Option (List ByteArray)
  | 0, _, _, _, _ => none
  | k + 1, x5, x11, x12, x13 => if x13 < x12 then (if 0 ≤ x13 then (if x13 < (x11.length : Int) then ((scheme_Valid_1.f ((rd_T49 x11 x13).f0) ((rd_T49 x11 x13).f1) ((rd_T49 x11 x13).f2) ((rd_T49 x11 x13).f3) ((rd_T49 x11 x13).f4)).bind fun t295 => (if x5.length < 8796093022208 then (scheme_mapTableName.l0 k (x5 ++ [t295]) x11 x12 (wrap64 (x13 + 1))) else (none))) else (none)) else (none)) else (some x5)
def scheme_mapTableName.f (k : Nat) (l0 : List (S49)) (a1 : Int) : Option (List ByteArray) := if l0.length ≤ 17592186044416 then (scheme_mapTableName.l0 k ([] : List ByteArray) l0 (l0.length : Int) 0) else none
set_option maxHeartbeats 8000000 in
set_option maxRecDepth 100000 in
theorem scheme_mapTableName.calls (k : Nat) (A0 : Option Addr) (c0 : Nat) (l0 : List (S49)) (a1 : Int) (r : List ByteArray) (w : World) (hr0 : Kd.C k49 w A0 l0.length l0) (hc0 : l0.length ≤ c0) (h : scheme_mapTableName.f k l0 a1 = some r) :
    Calls Tryz.prog 75 #[.slice A0 l0.length c0, .func (.func 76) #[] #[]] w fun e w' => ∃ v0_ : Value, e = .returned (v0_) ∧ Kd.R Kd.string 9 w' w.heap.size (fun _ => True) v0_ r ∧ Below w.heap.size w w' := by
  have hu49 := Tryz.underlying72
  have HR0 := Aside0.mk hr0
  have HC0 := Aside0.mk hc0
  clear hr0 hc0
  have HB := Aside0.mk (Below.refl w.heap.size w)
  have hlen : l0.length ≤ 17592186044416 := by
    unfold scheme_mapTableName.f at h
    split at h
    · assumption
    · cases h
  have H : (scheme_mapTableName.l0 k ([] : List ByteArray) l0 (l0.length : Int) 0) = some r := by
    unfold scheme_mapTableName.f at h
    rw [if_pos hlen] at h
    exact h
  clear h
  obtain ⟨i0, hi0, hz0, hz1, hz2⟩ := info_parts (P := Tryz.prog) (e := 9) (z := .string ⟨#[]⟩) (size := 1) (bytes := 16) (by kernel_rfl)
  obtain ⟨W1, hmk0, hown0, hgr0⟩ := run_make_own w w.heap.size 103 9 i0 _ 1 Tryz.underlying103 hi0 hz0 hz1 .i64 .i64 l0.length (by rw [hz2]; omega) (by unfold maxLen; omega) (Nat.le_refl _)
  have HB1 : Aside0 (Below w.heap.size w W1) := ⟨(Below.refl _ _).grown hgr0 (Nat.le_refl _) (fun j hj => by cases hj)⟩
  have HOW := Aside0.mk hown0
  clear HB hown0 hgr0 hi0 hz0 hz1 hz2
  have HB := HB1
  have H' := Aside0.mk H
  clear H
  go_enter Tryz.func75, Tryz.ntmps75
  go_wp2
  go_loopg [5, 13] k (fun kq v5 v13 w' => ∃ (x5_1 : List ByteArray) (x13_1 : Int), v13 = .int .i64 x13_1 ∧ Aside0 (scheme_mapTableName.l0 kq x5_1 l0 (l0.length : Int) x13_1 = some r) ∧ Aside0 (kq ≤ k) ∧ Aside0 (Kd.R Kd.string 9 w' w.heap.size (fun _ => True) v5 x5_1) ∧ Aside0 (Below w.heap.size w w'))
  case atStart => exact ⟨(([] : List ByteArray)), (0), (by first | rfl | (simp; done) | (simp [*]; done)), H', ⟨Nat.le_refl _⟩, ⟨by first | exact ⟨fun _ _ => trivial, [], HOW.out, Reps.none _ _⟩ | exact Kd.R_nil _ _ _ _ _ | exact Kd.N_nil _ _ _ _ _ | exact Kd.V_nil _ _ _ _ _ | exact Kd.Q_nil _ _ _ _ _ | exact Kd.S_nil _ _ _ _ _⟩, ⟨by repeat (first | (with_reducible first | exact HB.out | apply below_alloc | apply pw_below_drewN | apply below_drew1) | exact HB.out)⟩⟩
  case round =>
    clear H'
    try clear p2
    obtain ⟨x5_1, x13_1, rfl, HA, HK1, HO_5, HB⟩ := hrel
    cases gk with
    | zero => exact absurd HA.out (by simp [scheme_mapTableName.l0])
    | succ k1 =>
      have H := HA.out
      clear HA
      simp only [scheme_mapTableName.l0] at H
      by_cases c3 : x13_1 < (l0.length : Int)
      · rw [if_pos c3] at H
        have c3b0 : decide (x13_1 < (l0.length : Int)) = true := decide_eq_true c3
        clear c3
        by_cases c4 : 0 ≤ x13_1
        · rw [if_pos c4] at H
          have c4b0 : decide (0 ≤ x13_1) = true := decide_eq_true c4
          clear c4
          by_cases c5 : x13_1 < (l0.length : Int)
          · rw [if_pos c5] at H
            have c5b0 : decide (x13_1 < (l0.length : Int)) = true := decide_eq_true c5
            clear c5
            replace H := Option.bind_eq_some_iff.mp H
            obtain ⟨t295, A60, H⟩ := H
            replace H : (if x5_1.length < 8796093022208 then (scheme_mapTableName.l0 k1 (x5_1 ++ [t295]) l0 (l0.length : Int) (wrap64 (x13_1 + 1))) else (none)) = some r := H
            have A6 := Aside0.mk A60
            clear A60
            by_cases c7 : x5_1.length < 8796093022208
            · rw [if_pos c7] at H
              have LMc7 := Aside0.mk c7
              clear c7
              obtain ⟨y296, hy296⟩ : ∃ y_ : List ByteArray, y_ = (x5_1 ++ [t295]) := ⟨_, rfl⟩
              replace H : (scheme_mapTableName.l0 k1 y296 l0 (l0.length : Int) (wrap64 (x13_1 + 1))) = some r := by first | (rw [hy296]; with_reducible exact H) | (have H2_ := (Option.bind_some _ _).symm.trans H; rw [hy296]; with_reducible exact H2_) | (have H2_ := (Option.bind_some _ _).symm.trans H; with_reducible exact H2_) | with_reducible exact H | (rw [hy296]; exact H) | exact H
              have Ny296 := Aside0.mk hy296
              clear hy296
              have H' := Aside0.mk H
              clear H
              have p293 : 0 ≤ (x13_1 : Int) := of_decide_eq_true (by first | (with_reducible assumption) | assumption)
              have q293 : x13_1 < (l0.length : Int) := of_decide_eq_true (by first | (with_reducible assumption) | assumption)
              obtain ⟨ad293, A293_1, c293_1, A293_2, c293_2, A293_3, c293_3, A293_4, c293_4, e293, hx293_0, hx293_1, hx293_2, hx293_3, hx293_4, hl293_1, hi293_1, hl293_2, hi293_2, hl293_3, hi293_3, hl293_4, hi293_4⟩ := at_T49 HR0.out x13_1 p293 q293
              cases e293
              replace hx293_0 := (HB.out.cell (World.block_lt_of_cell? w _ hx293_0)).trans hx293_0
              replace hx293_1 := (HB.out.cell (World.block_lt_of_cell? w _ hx293_1)).trans hx293_1
              replace hx293_2 := (HB.out.cell (World.block_lt_of_cell? w _ hx293_2)).trans hx293_2
              replace hx293_3 := (HB.out.cell (World.block_lt_of_cell? w _ hx293_3)).trans hx293_3
              replace hx293_4 := (HB.out.cell (World.block_lt_of_cell? w _ hx293_4)).trans hx293_4
              have HR293_1 := Aside0.mk hi293_1
              have HC293_1 := Aside0.mk hl293_1
              clear hi293_1 hl293_1
              have HR293_2 := Aside0.mk hi293_2
              have HC293_2 := Aside0.mk hl293_2
              clear hi293_2 hl293_2
              have HR293_3 := Aside0.mk hi293_3
              have HC293_3 := Aside0.mk hl293_3
              clear hi293_3 hl293_3
              have HR293_4 := Aside0.mk hi293_4
              have HC293_4 := Aside0.mk hl293_4
              clear hi293_4 hl293_4
              replace p293 := eq_true p293
              replace q293 := eq_true q293
              go_wp2_with (first | ((with_reducible refine gate_dst (N := 7) rfl ?_); refine box_event ?hg (N := 7) ?hd (cs := #[.string (⟨#[]⟩ : ByteArray), .slice none 0 0, .slice none 0 0, .slice none 0 0, .slice none 0 0]) (t := 72) ?hr ?_; (case hd => rfl); (case hg => rfl); (case hr => first | (go_simp; done) | (go_simp; rfl)); intro gb294 hg w8 hbox hb; have n0_ := Aside0.mk (Kd.R_below (by (with_reducible repeat (first | apply Kd.R_alloc | apply Kd.R_drewN | apply Kd.R_drew)); exact HO_5.out) hb); have n1_ := Aside0.mk (below_step (by repeat (first | (with_reducible first | exact HB.out | apply below_alloc | apply pw_below_drewN | apply below_drew1) | exact HB.out)) hb); have n2_ := Aside0.mk (hbox); have n3_ := Aside0.mk ((by rw [hg]; exact (below_size (by repeat (first | (with_reducible first | exact HB.out | apply below_alloc | apply pw_below_drewN | apply below_drew1) | exact HB.out))) : w.heap.size ≤ gb294)); have n4_ := Aside0.mk ((by rw [hg]; exact (below_size (by repeat (first | (with_reducible first | exact HB.out | apply below_alloc | apply pw_below_drewN | apply below_drew1) | exact HB.out))) : w.heap.size ≤ gb294)); clear HO_5; clear HB; have HO_5 := n0_; have HB := n1_; have BK294 := n2_; have GW294 := n3_; have GE294 := n4_; clear n0_ n1_ n2_ n3_ n4_; clear hb hbox hg; have hcz9_0 : w8.cell? ⟨gb294, 0, none⟩ = some (.string (⟨#[]⟩ : ByteArray)) := (blk_cell BK294.out 0).trans rfl; have hcz9_1 : w8.cell? ⟨gb294, 1, none⟩ = some (.slice none 0 0) := (blk_cell BK294.out 1).trans rfl; have hcz9_2 : w8.cell? ⟨gb294, 2, none⟩ = some (.slice none 0 0) := (blk_cell BK294.out 2).trans rfl; have hcz9_3 : w8.cell? ⟨gb294, 3, none⟩ = some (.slice none 0 0) := (blk_cell BK294.out 3).trans rfl; have hcz9_4 : w8.cell? ⟨gb294, 4, none⟩ = some (.slice none 0 0) := (blk_cell BK294.out 4).trans rfl; have hfz9_0 := blk_frozen BK294.out 0; have hfz9_1 := blk_frozen BK294.out 1; have hfz9_2 := blk_frozen BK294.out 2; have hfz9_3 := blk_frozen BK294.out 3; have hfz9_4 := blk_frozen BK294.out 4) | ((with_reducible refine gate_value (x := .tmp 18) rfl ?_); refine goesV_ (some 20) (.tmp 18) rfl rfl Tryz.func76 (by kernel_rfl) rfl #[.agg #[.string ((rd_T49 l0 x13_1).f0), .slice A293_1 ((rd_T49 l0 x13_1).f1).length c293_1, .slice A293_2 ((rd_T49 l0 x13_1).f2).length c293_2, .slice A293_3 ((rd_T49 l0 x13_1).f3).length c293_3, .slice A293_4 ((rd_T49 l0 x13_1).f4).length c293_4]] rfl (by (try simp only [List.map_toArray, List.map_cons, List.map_nil]); first | done | rfl | (simp only [List.length_drop, List.length_take]; rfl)) ?_; (with_reducible refine (scheme_Valid_1.calls ((rd_T49 l0 x13_1).f0) _ _ ((rd_T49 l0 x13_1).f1) _ _ ((rd_T49 l0 x13_1).f2) _ _ ((rd_T49 l0 x13_1).f3) _ _ ((rd_T49 l0 x13_1).f4) t295 _ ?side1 ?side2 ?side3 ?side4 ?side5 ?side6 ?side7 ?side8 A6.out).mono ?_); (case side1 => exact Kd.C_below HR293_1.out (by repeat (first | (with_reducible first | exact HB.out | apply below_alloc | apply pw_below_drewN | apply below_drew1 | refine below_set ?_ GE294.out) | exact HB.out))); (case side2 => exact HC293_1.out); (case side3 => exact Kd.C_below HR293_2.out (by repeat (first | (with_reducible first | exact HB.out | apply below_alloc | apply pw_below_drewN | apply below_drew1 | refine below_set ?_ GE294.out) | exact HB.out))); (case side4 => exact HC293_2.out); (case side5 => exact Kd.C_below HR293_3.out (by repeat (first | (with_reducible first | exact HB.out | apply below_alloc | apply pw_below_drewN | apply below_drew1 | refine below_set ?_ GE294.out) | exact HB.out))); (case side6 => exact HC293_3.out); (case side7 => exact Kd.C_below HR293_4.out (by repeat (first | (with_reducible first | exact HB.out | apply below_alloc | apply pw_below_drewN | apply below_drew1 | refine below_set ?_ GE294.out) | exact HB.out))); (case side8 => exact HC293_4.out); rintro e w10 ⟨rfl, hb⟩; refine ⟨_, rfl, ?_⟩; have n0_ := Aside0.mk (Kd.R_below (by (with_reducible repeat (first | apply Kd.R_alloc | apply Kd.R_drewN | apply Kd.R_drew)); exact (Kd.R_mono (Kd.R_far (p := ⟨gb294, 4, none⟩) (Kd.R_far (p := ⟨gb294, 3, none⟩) (Kd.R_far (p := ⟨gb294, 2, none⟩) (Kd.R_far (p := ⟨gb294, 1, none⟩) (Kd.R_far (p := ⟨gb294, 0, none⟩) (Kd.R_types HO_5.out BK294.out (by decide)) (fun _ hk => hk.2) (.string ((rd_T49 l0 x13_1).f0))) (fun _ hk => hk.2) (.slice A293_1 ((rd_T49 l0 x13_1).f1).length c293_1)) (fun _ hk => hk.2) (.slice A293_2 ((rd_T49 l0 x13_1).f2).length c293_2)) (fun _ hk => hk.2) (.slice A293_3 ((rd_T49 l0 x13_1).f3).length c293_3)) (fun _ hk => hk.2) (.slice A293_4 ((rd_T49 l0 x13_1).f4).length c293_4)) (fun _ h_ => h_.1))) hb); have n1_ := Aside0.mk (blk_below (g := gb294) (o := .cells #[.string ((rd_T49 l0 x13_1).f0), .slice A293_1 ((rd_T49 l0 x13_1).f1).length c293_1, .slice A293_2 ((rd_T49 l0 x13_1).f2).length c293_2, .slice A293_3 ((rd_T49 l0 x13_1).f3).length c293_3, .slice A293_4 ((rd_T49 l0 x13_1).f4).length c293_4] 72 (0, 0)) (by (with_reducible repeat (first | refine blk_drewN ?_ _ | refine blk_drew ?_ | refine blk_alloc ?_ _)); refine blk_put (cs := #[.string ((rd_T49 l0 x13_1).f0), .slice A293_1 ((rd_T49 l0 x13_1).f1).length c293_1, .slice A293_2 ((rd_T49 l0 x13_1).f2).length c293_2, .slice A293_3 ((rd_T49 l0 x13_1).f3).length c293_3, .slice none 0 0]) ?_ 4 _ rfl; (with_reducible repeat (first | refine blk_drewN ?_ _ | refine blk_drew ?_ | refine blk_alloc ?_ _)); refine blk_put (cs := #[.string ((rd_T49 l0 x13_1).f0), .slice A293_1 ((rd_T49 l0 x13_1).f1).length c293_1, .slice A293_2 ((rd_T49 l0 x13_1).f2).length c293_2, .slice none 0 0, .slice none 0 0]) ?_ 3 _ rfl; (with_reducible repeat (first | refine blk_drewN ?_ _ | refine blk_drew ?_ | refine blk_alloc ?_ _)); refine blk_put (cs := #[.string ((rd_T49 l0 x13_1).f0), .slice A293_1 ((rd_T49 l0 x13_1).f1).length c293_1, .slice none 0 0, .slice none 0 0, .slice none 0 0]) ?_ 2 _ rfl; (with_reducible repeat (first | refine blk_drewN ?_ _ | refine blk_drew ?_ | refine blk_alloc ?_ _)); refine blk_put (cs := #[.string ((rd_T49 l0 x13_1).f0), .slice none 0 0, .slice none 0 0, .slice none 0 0, .slice none 0 0]) ?_ 1 _ rfl; (with_reducible repeat (first | refine blk_drewN ?_ _ | refine blk_drew ?_ | refine blk_alloc ?_ _)); refine blk_put (cs := #[.string (⟨#[]⟩ : ByteArray), .slice none 0 0, .slice none 0 0, .slice none 0 0, .slice none 0 0]) ?_ 0 _ rfl; (with_reducible repeat (first | refine blk_drewN ?_ _ | refine blk_drew ?_ | refine blk_alloc ?_ _)); exact BK294.out) hb); have n2_ := Aside0.mk (below_step (by repeat (first | (with_reducible first | exact HB.out | apply below_alloc | apply pw_below_drewN | apply below_drew1 | refine below_set ?_ GE294.out) | exact HB.out)) hb); clear HO_5; clear BK294; clear HB; have HO_5 := n0_; have BK294 := n1_; have HB := n2_; clear n0_ n1_ n2_; (try clear hb); (try clear hb2); (try clear hk); (try clear hi)) | ((with_reducible refine gate_builtin (b := .append) (xs := #[.tmp 17, .tmp 21]) rfl ?_); at_builtin; refine Kd.R_append Kd.string (w0 := w) w.heap.size rfl (.tmp 17) (.tmp 21) 103 9 (.string ⟨#[]⟩) 16 rfl Tryz.underlying103 info9 rfl (by decide) (by omega) u5 x5_1 t295 [.string t295] (fun _ => True) (fun _ => False) rfl rfl ?aP (fun _ hk => hk.elim) ?aF ?aO ?aB ?aS ?aL ?_; (case aP => exact rfl); (case aB => exact (by repeat (first | (with_reducible first | exact HB.out | apply below_alloc | apply pw_below_drewN | apply below_drew1 | refine below_set ?_ GE294.out) | exact HB.out))); (case aF => exact (fun _ _ => trivial)); (case aO => exact (by (with_reducible repeat (first | apply Kd.R_alloc | apply Kd.R_drewN | apply Kd.R_drew)); exact HO_5.out)); (case aS => exact (below_size (by repeat (first | (with_reducible first | exact HB.out | apply below_alloc | apply pw_below_drewN | apply below_drew1 | refine below_set ?_ GE294.out) | exact HB.out)))); (case aL => have := LMc7.out; omega); intro v297 w11 ho hb hg hat; rw [← Ny296.out] at ho; have n0_ := Aside0.mk (blk_grown (g := gb294) (o := .cells #[.string ((rd_T49 l0 x13_1).f0), .slice A293_1 ((rd_T49 l0 x13_1).f1).length c293_1, .slice A293_2 ((rd_T49 l0 x13_1).f2).length c293_2, .slice A293_3 ((rd_T49 l0 x13_1).f3).length c293_3, .slice A293_4 ((rd_T49 l0 x13_1).f4).length c293_4] 72 (0, 0)) (by (with_reducible repeat (first | refine blk_drewN ?_ _ | refine blk_drew ?_ | refine blk_alloc ?_ _)); exact BK294.out) hg (Kd.R_ne HO_5.out BK294.out (by decide))); have n1_ := Aside0.mk (hb); have n2_ := Aside0.mk (ho); clear BK294; clear HB; clear HO_5; have BK294 := n0_; have HB := n1_; have HO298 := n2_; clear n0_ n1_ n2_; clear ho hb hg hat))
              go_roundg k1
              case measure => have := HK1.out; omega
              case rel => exact ⟨(y296), (wrap64 (x13_1 + 1)), (by first | rfl | (simp; done) | (simp [*]; done)), H', ⟨by have := HK1.out; omega⟩, ⟨by (with_reducible repeat (first | apply Kd.R_alloc | apply Kd.R_drewN | apply Kd.R_drew)); exact HO298.out⟩, ⟨by repeat (first | (with_reducible first | exact HB.out | apply below_alloc | apply pw_below_drewN | apply below_drew1 | refine below_set ?_ GE294.out) | exact HB.out)⟩⟩
            · rw [if_neg c7] at H
              exact absurd H (by simp)
          · rw [if_neg c5] at H
            exact absurd H (by simp)
        · rw [if_neg c4] at H
          exact absurd H (by simp)
      · rw [if_neg c3] at H
        have c3b0 : decide (x13_1 < (l0.length : Int)) = false := decide_eq_false c3
        clear c3
        obtain rfl := Option.some.inj H
        go_wp2
        go_ret
        exact ⟨_, by first | rfl | (simp [errW_none, errW_some] <;> rfl) | (simp [*, errW_none, errW_some] <;> rfl), by (with_reducible repeat (first | apply Kd.R_alloc | apply Kd.R_drewN | apply Kd.R_drew)); exact HO_5.out, by repeat (first | (with_reducible first | exact HB.out | apply below_alloc | apply pw_below_drewN | apply below_drew1) | exact HB.out)⟩

/-! ### scheme_mapColName: function 5047 -/
def scheme_mapColName.l0 : Nat → List ByteArray → List (S78) → Int → Int → Option (List ByteArray)
  | 0, _, _, _, _ => none
  | k + 1, x5, x11, x12, x13 => if x13 < x12 then (if 0 ≤ x13 then (if x13 < (x11.length : Int) then ((scheme_validTable_1.f ((rd_T78 x11 x13).f0) ((rd_T78 x11 x13).f1) ((rd_T78 x11 x13).f2) ((rd_T78 x11 x13).f3) ((rd_T78 x11 x13).f4)).bind fun t270 => (if x5.length < 8796093022208 then (scheme_mapColName.l0 k (x5 ++ [t270]) x11 x12 (wrap64 (x13 + 1))) else (none))) else (none)) else (none)) else (some x5)
def scheme_mapColName.f (k : Nat) (l0 : List (S78)) (a1 : Int) : Option (List ByteArray) := if l0.length ≤ 17592186044416 then (scheme_mapColName.l0 k ([] : List ByteArray) l0 (l0.length : Int) 0) else none
set_option maxHeartbeats 8000000 in
set_option maxRecDepth 100000 in
theorem scheme_mapColName.calls (k : Nat) (A0 : Option Addr) (c0 : Nat) (l0 : List (S78)) (a1 : Int) (r : List ByteArray) (w : World) (hr0 : Kd.C k78 w A0 l0.length l0) (hc0 : l0.length ≤ c0) (h : scheme_mapColName.f k l0 a1 = some r) :
    Calls Tryz.prog 128 #[.slice A0 l0.length c0, .func (.func 129) #[] #[]] w fun e w' => ∃ v0_ : Value, e = .returned (v0_) ∧ Kd.R Kd.string 9 w' w.heap.size (fun _ => True) v0_ r ∧ Below w.heap.size w w' := by
  have hu78 := Tryz.underlying83
  have HR0 := Aside0.mk hr0
  have HC0 := Aside0.mk hc0
  clear hr0 hc0
  have HB := Aside0.mk (Below.refl w.heap.size w)
  have hlen : l0.length ≤ 17592186044416 := by
    unfold scheme_mapColName.f at h
    split at h
    · assumption
    · cases h
  have H : (scheme_mapColName.l0 k ([] : List ByteArray) l0 (l0.length : Int) 0) = some r := by
    unfold scheme_mapColName.f at h
    rw [if_pos hlen] at h
    exact h
  clear h
  obtain ⟨i0, hi0, hz0, hz1, hz2⟩ := info_parts (P := Tryz.prog) (e := 9) (z := .string ⟨#[]⟩) (size := 1) (bytes := 16) (by kernel_rfl)
  obtain ⟨W1, hmk0, hown0, hgr0⟩ := run_make_own w w.heap.size 103 9 i0 _ 1 Tryz.underlying103 hi0 hz0 hz1 .i64 .i64 l0.length (by rw [hz2]; omega) (by unfold maxLen; omega) (Nat.le_refl _)
  have HB1 : Aside0 (Below w.heap.size w W1) := ⟨(Below.refl _ _).grown hgr0 (Nat.le_refl _) (fun j hj => by cases hj)⟩
  have HOW := Aside0.mk hown0
  clear HB hown0 hgr0 hi0 hz0 hz1 hz2
  have HB := HB1
  have H' := Aside0.mk H
  clear H
  go_enter Tryz.func128, Tryz.ntmps128
  go_wp2
  go_loopg [5, 13] k (fun kq v5 v13 w' => ∃ (x5_1 : List ByteArray) (x13_1 : Int), v13 = .int .i64 x13_1 ∧ Aside0 (scheme_mapColName.l0 kq x5_1 l0 (l0.length : Int) x13_1 = some r) ∧ Aside0 (kq ≤ k) ∧ Aside0 (Kd.R Kd.string 9 w' w.heap.size (fun _ => True) v5 x5_1) ∧ Aside0 (Below w.heap.size w w'))
  case atStart => exact ⟨(([] : List ByteArray)), (0), (by first | rfl | (simp; done) | (simp [*]; done)), H', ⟨Nat.le_refl _⟩, ⟨by first | exact ⟨fun _ _ => trivial, [], HOW.out, Reps.none _ _⟩ | exact Kd.R_nil _ _ _ _ _ | exact Kd.N_nil _ _ _ _ _ | exact Kd.V_nil _ _ _ _ _ | exact Kd.Q_nil _ _ _ _ _ | exact Kd.S_nil _ _ _ _ _⟩, ⟨by repeat (first | (with_reducible first | exact HB.out | apply below_alloc | apply pw_below_drewN | apply below_drew1) | exact HB.out)⟩⟩
  case round =>
    clear H'
    try clear p2
    obtain ⟨x5_1, x13_1, rfl, HA, HK1, HO_5, HB⟩ := hrel
    cases gk with
    | zero => exact absurd HA.out (by simp [scheme_mapColName.l0])
    | succ k1 =>
      have H := HA.out
      clear HA
      simp only [scheme_mapColName.l0] at H
      by_cases c3 : x13_1 < (l0.length : Int)
      · rw [if_pos c3] at H
        have c3b0 : decide (x13_1 < (l0.length : Int)) = true := decide_eq_true c3
        clear c3
        by_cases c4 : 0 ≤ x13_1
        · rw [if_pos c4] at H
          have c4b0 : decide (0 ≤ x13_1) = true := decide_eq_true c4
          clear c4
          by_cases c5 : x13_1 < (l0.length : Int)
          · rw [if_pos c5] at H
            have c5b0 : decide (x13_1 < (l0.length : Int)) = true := decide_eq_true c5
            clear c5
            replace H := Option.bind_eq_some_iff.mp H
            obtain ⟨t270, A60, H⟩ := H
            replace H : (if x5_1.length < 8796093022208 then (scheme_mapColName.l0 k1 (x5_1 ++ [t270]) l0 (l0.length : Int) (wrap64 (x13_1 + 1))) else (none)) = some r := H
            have A6 := Aside0.mk A60
            clear A60
            by_cases c7 : x5_1.length < 8796093022208
            · rw [if_pos c7] at H
              have LMc7 := Aside0.mk c7
              clear c7
              obtain ⟨y271, hy271⟩ : ∃ y_ : List ByteArray, y_ = (x5_1 ++ [t270]) := ⟨_, rfl⟩
              replace H : (scheme_mapColName.l0 k1 y271 l0 (l0.length : Int) (wrap64 (x13_1 + 1))) = some r := by first | (rw [hy271]; with_reducible exact H) | (have H2_ := (Option.bind_some _ _).symm.trans H; rw [hy271]; with_reducible exact H2_) | (have H2_ := (Option.bind_some _ _).symm.trans H; with_reducible exact H2_) | with_reducible exact H | (rw [hy271]; exact H) | exact H
              have Ny271 := Aside0.mk hy271
              clear hy271
              have H' := Aside0.mk H
              clear H
              have p268 : 0 ≤ (x13_1 : Int) := of_decide_eq_true (by first | (with_reducible assumption) | assumption)
              have q268 : x13_1 < (l0.length : Int) := of_decide_eq_true (by first | (with_reducible assumption) | assumption)
              obtain ⟨ad268, e268, hx268_0, hx268_1, hx268_2, hx268_3, hx268_4⟩ := at_T78 HR0.out x13_1 p268 q268
              cases e268
              replace hx268_0 := (HB.out.cell (World.block_lt_of_cell? w _ hx268_0)).trans hx268_0
              replace hx268_1 := (HB.out.cell (World.block_lt_of_cell? w _ hx268_1)).trans hx268_1
              replace hx268_2 := (HB.out.cell (World.block_lt_of_cell? w _ hx268_2)).trans hx268_2
              replace hx268_3 := (HB.out.cell (World.block_lt_of_cell? w _ hx268_3)).trans hx268_3
              replace hx268_4 := (HB.out.cell (World.block_lt_of_cell? w _ hx268_4)).trans hx268_4
              replace p268 := eq_true p268
              replace q268 := eq_true q268
              go_wp2_with (first | ((with_reducible refine gate_dst (N := 7) rfl ?_); refine box_event ?hg (N := 7) ?hd (cs := #[.string (⟨#[]⟩ : ByteArray), .int .u8 0, .bool false, .int .i64 0, .int .i64 0]) (t := 83) ?hr ?_; (case hd => rfl); (case hg => rfl); (case hr => first | (go_simp; done) | (go_simp; rfl)); intro gb269 hg w8 hbox hb; have n0_ := Aside0.mk (Kd.R_below (by (with_reducible repeat (first | apply Kd.R_alloc | apply Kd.R_drewN | apply Kd.R_drew)); exact HO_5.out) hb); have n1_ := Aside0.mk (below_step (by repeat (first | (with_reducible first | exact HB.out | apply below_alloc | apply pw_below_drewN | apply below_drew1) | exact HB.out)) hb); have n2_ := Aside0.mk (hbox); have n3_ := Aside0.mk ((by rw [hg]; exact (below_size (by repeat (first | (with_reducible first | exact HB.out | apply below_alloc | apply pw_below_drewN | apply below_drew1) | exact HB.out))) : w.heap.size ≤ gb269)); have n4_ := Aside0.mk ((by rw [hg]; exact (below_size (by repeat (first | (with_reducible first | exact HB.out | apply below_alloc | apply pw_below_drewN | apply below_drew1) | exact HB.out))) : w.heap.size ≤ gb269)); clear HO_5; clear HB; have HO_5 := n0_; have HB := n1_; have BK269 := n2_; have GW269 := n3_; have GE269 := n4_; clear n0_ n1_ n2_ n3_ n4_; clear hb hbox hg; have hcz9_0 : w8.cell? ⟨gb269, 0, none⟩ = some (.string (⟨#[]⟩ : ByteArray)) := (blk_cell BK269.out 0).trans rfl; have hcz9_1 : w8.cell? ⟨gb269, 1, none⟩ = some (.int .u8 0) := (blk_cell BK269.out 1).trans rfl; have hcz9_2 : w8.cell? ⟨gb269, 2, none⟩ = some (.bool false) := (blk_cell BK269.out 2).trans rfl; have hcz9_3 : w8.cell? ⟨gb269, 3, none⟩ = some (.int .i64 0) := (blk_cell BK269.out 3).trans rfl; have hcz9_4 : w8.cell? ⟨gb269, 4, none⟩ = some (.int .i64 0) := (blk_cell BK269.out 4).trans rfl; have hfz9_0 := blk_frozen BK269.out 0; have hfz9_1 := blk_frozen BK269.out 1; have hfz9_2 := blk_frozen BK269.out 2; have hfz9_3 := blk_frozen BK269.out 3; have hfz9_4 := blk_frozen BK269.out 4) | ((with_reducible refine gate_value (x := .tmp 18) rfl ?_); refine goesV_ (some 20) (.tmp 18) rfl rfl Tryz.func129 (by kernel_rfl) rfl #[.agg #[.string ((rd_T78 l0 x13_1).f0), .int .u8 ((rd_T78 l0 x13_1).f1), .bool ((rd_T78 l0 x13_1).f2), .int .i64 ((rd_T78 l0 x13_1).f3), .int .i64 ((rd_T78 l0 x13_1).f4)]] rfl (by (try simp only [List.map_toArray, List.map_cons, List.map_nil]); first | done | rfl | (simp only [List.length_drop, List.length_take]; rfl)) ?_; (with_reducible refine (scheme_validTable_1.calls ((rd_T78 l0 x13_1).f0) ((rd_T78 l0 x13_1).f1) ((rd_T78 l0 x13_1).f2) ((rd_T78 l0 x13_1).f3) ((rd_T78 l0 x13_1).f4) t270 _ A6.out).mono ?_); rintro e w10 ⟨rfl, hb⟩; refine ⟨_, rfl, ?_⟩; have n0_ := Aside0.mk (Kd.R_below (by (with_reducible repeat (first | apply Kd.R_alloc | apply Kd.R_drewN | apply Kd.R_drew)); exact (Kd.R_mono (Kd.R_far (p := ⟨gb269, 4, none⟩) (Kd.R_far (p := ⟨gb269, 3, none⟩) (Kd.R_far (p := ⟨gb269, 2, none⟩) (Kd.R_far (p := ⟨gb269, 1, none⟩) (Kd.R_far (p := ⟨gb269, 0, none⟩) (Kd.R_types HO_5.out BK269.out (by decide)) (fun _ hk => hk.2) (.string ((rd_T78 l0 x13_1).f0))) (fun _ hk => hk.2) (.int .u8 ((rd_T78 l0 x13_1).f1))) (fun _ hk => hk.2) (.bool ((rd_T78 l0 x13_1).f2))) (fun _ hk => hk.2) (.int .i64 ((rd_T78 l0 x13_1).f3))) (fun _ hk => hk.2) (.int .i64 ((rd_T78 l0 x13_1).f4))) (fun _ h_ => h_.1))) hb); have n1_ := Aside0.mk (blk_below (g := gb269) (o := .cells #[.string ((rd_T78 l0 x13_1).f0), .int .u8 ((rd_T78 l0 x13_1).f1), .bool ((rd_T78 l0 x13_1).f2), .int .i64 ((rd_T78 l0 x13_1).f3), .int .i64 ((rd_T78 l0 x13_1).f4)] 83 (0, 0)) (by (with_reducible repeat (first | refine blk_drewN ?_ _ | refine blk_drew ?_ | refine blk_alloc ?_ _)); refine blk_put (cs := #[.string ((rd_T78 l0 x13_1).f0), .int .u8 ((rd_T78 l0 x13_1).f1), .bool ((rd_T78 l0 x13_1).f2), .int .i64 ((rd_T78 l0 x13_1).f3), .int .i64 0]) ?_ 4 _ rfl; (with_reducible repeat (first | refine blk_drewN ?_ _ | refine blk_drew ?_ | refine blk_alloc ?_ _)); refine blk_put (cs := #[.string ((rd_T78 l0 x13_1).f0), .int .u8 ((rd_T78 l0 x13_1).f1), .bool ((rd_T78 l0 x13_1).f2), .int .i64 0, .int .i64 0]) ?_ 3 _ rfl; (with_reducible repeat (first | refine blk_drewN ?_ _ | refine blk_drew ?_ | refine blk_alloc ?_ _)); refine blk_put (cs := #[.string ((rd_T78 l0 x13_1).f0), .int .u8 ((rd_T78 l0 x13_1).f1), .bool false, .int .i64 0, .int .i64 0]) ?_ 2 _ rfl; (with_reducible repeat (first | refine blk_drewN ?_ _ | refine blk_drew ?_ | refine blk_alloc ?_ _)); refine blk_put (cs := #[.string ((rd_T78 l0 x13_1).f0), .int .u8 0, .bool false, .int .i64 0, .int .i64 0]) ?_ 1 _ rfl; (with_reducible repeat (first | refine blk_drewN ?_ _ | refine blk_drew ?_ | refine blk_alloc ?_ _)); refine blk_put (cs := #[.string (⟨#[]⟩ : ByteArray), .int .u8 0, .bool false, .int .i64 0, .int .i64 0]) ?_ 0 _ rfl; (with_reducible repeat (first | refine blk_drewN ?_ _ | refine blk_drew ?_ | refine blk_alloc ?_ _)); exact BK269.out) hb); have n2_ := Aside0.mk (below_step (by repeat (first | (with_reducible first | exact HB.out | apply below_alloc | apply pw_below_drewN | apply below_drew1 | refine below_set ?_ GE269.out) | exact HB.out)) hb); clear HO_5; clear BK269; clear HB; have HO_5 := n0_; have BK269 := n1_; have HB := n2_; clear n0_ n1_ n2_; (try clear hb); (try clear hb2); (try clear hk); (try clear hi)) | ((with_reducible refine gate_builtin (b := .append) (xs := #[.tmp 17, .tmp 21]) rfl ?_); at_builtin; refine Kd.R_append Kd.string (w0 := w) w.heap.size rfl (.tmp 17) (.tmp 21) 103 9 (.string ⟨#[]⟩) 16 rfl Tryz.underlying103 info9 rfl (by decide) (by omega) u5 x5_1 t270 [.string t270] (fun _ => True) (fun _ => False) rfl rfl ?aP (fun _ hk => hk.elim) ?aF ?aO ?aB ?aS ?aL ?_; (case aP => exact rfl); (case aB => exact (by repeat (first | (with_reducible first | exact HB.out | apply below_alloc | apply pw_below_drewN | apply below_drew1 | refine below_set ?_ GE269.out) | exact HB.out))); (case aF => exact (fun _ _ => trivial)); (case aO => exact (by (with_reducible repeat (first | apply Kd.R_alloc | apply Kd.R_drewN | apply Kd.R_drew)); exact HO_5.out)); (case aS => exact (below_size (by repeat (first | (with_reducible first | exact HB.out | apply below_alloc | apply pw_below_drewN | apply below_drew1 | refine below_set ?_ GE269.out) | exact HB.out)))); (case aL => have := LMc7.out; omega); intro v272 w11 ho hb hg hat; rw [← Ny271.out] at ho; have n0_ := Aside0.mk (blk_grown (g := gb269) (o := .cells #[.string ((rd_T78 l0 x13_1).f0), .int .u8 ((rd_T78 l0 x13_1).f1), .bool ((rd_T78 l0 x13_1).f2), .int .i64 ((rd_T78 l0 x13_1).f3), .int .i64 ((rd_T78 l0 x13_1).f4)] 83 (0, 0)) (by (with_reducible repeat (first | refine blk_drewN ?_ _ | refine blk_drew ?_ | refine blk_alloc ?_ _)); exact BK269.out) hg (Kd.R_ne HO_5.out BK269.out (by decide))); have n1_ := Aside0.mk (hb); have n2_ := Aside0.mk (ho); clear BK269; clear HB; clear HO_5; have BK269 := n0_; have HB := n1_; have HO273 := n2_; clear n0_ n1_ n2_; clear ho hb hg hat))
              go_roundg k1
              case measure => have := HK1.out; omega
              case rel => exact ⟨(y271), (wrap64 (x13_1 + 1)), (by first | rfl | (simp; done) | (simp [*]; done)), H', ⟨by have := HK1.out; omega⟩, ⟨by (with_reducible repeat (first | apply Kd.R_alloc | apply Kd.R_drewN | apply Kd.R_drew)); exact HO273.out⟩, ⟨by repeat (first | (with_reducible first | exact HB.out | apply below_alloc | apply pw_below_drewN | apply below_drew1 | refine below_set ?_ GE269.out) | exact HB.out)⟩⟩
            · rw [if_neg c7] at H
              exact absurd H (by simp)
          · rw [if_neg c5] at H
            exact absurd H (by simp)
        · rw [if_neg c4] at H
          exact absurd H (by simp)
      · rw [if_neg c3] at H
        have c3b0 : decide (x13_1 < (l0.length : Int)) = false := decide_eq_false c3
        clear c3
        obtain rfl := Option.some.inj H
        go_wp2
        go_ret
        exact ⟨_, by first | rfl | (simp [errW_none, errW_some] <;> rfl) | (simp [*, errW_none, errW_some] <;> rfl), by (with_reducible repeat (first | apply Kd.R_alloc | apply Kd.R_drewN | apply Kd.R_drew)); exact HO_5.out, by repeat (first | (with_reducible first | exact HB.out | apply below_alloc | apply pw_below_drewN | apply below_drew1) | exact HB.out)⟩

end Go.Proofs.YthgfdnffnbclpaaGreatDoor.PAll
