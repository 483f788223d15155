import Derived.Test.YthgfdnffnbclpaaGreatDoorSQM09
import Derived.Test.YthgfdnffnbclpaaGreatDoorSQM10
import Derived.Test.YthgfdnffnbclpaaGreatDoorSQM06
set_option linter.unusedVariables false
set_option linter.unusedSimpArgs false
namespace Go.Proofs.YthgfdnffnbclpaaGreatDoor.PAll
open Go.RowKit Go.Proofs.YthgfdnffnbclpaaGreatDoorW.PrintWords Go.Proofs.YthgfdnffnbclpaaGreatDoorW.PrintLast Go.Proofs.YthgfdnffnbclpaaGreatDoorW.PrintMore

def inR (row : List S64) (cols : List Int) : Prop := ∀ c ∈ cols, 0 ≤ c ∧ c < (row.length : Int)
def vals (row : List S64) (cols : List Int) : List S64 := cols.map (rd_T64 row)
def fullB (row : List S64) (cols : List Int) : Bool := cols.all fun c => decide ((rd_T64 row c).f0 ≠ 0)
theorem fullB_vals (row : List S64) (cols : List Int) : fullB row cols = true ↔ ∀ x ∈ vals row cols, x.f0 ≠ 0 := by
  unfold fullB vals
  rw [List.all_eq_true]
  constructor
  · intro h x hx
    obtain ⟨c, hc, rfl⟩ := List.mem_map.1 hx
    exact of_decide_eq_true (h c hc)
  · intro h c hc
    exact decide_eq_true (h _ (List.mem_map_of_mem hc))
theorem fullP_is (row : List S64) : ∀ cols : List Int, inR row cols → fullP row cols = some (fullB row cols)
  | [], _ => rfl
  | c :: r, h => by
    rw [fullP, if_pos (h c (by simp)), fullP_is row r (fun x hx => h x (by simp [hx]))]
    unfold fullB
    rw [List.all_cons]
    by_cases q : (rd_T64 row c).f0 = 0
    · rw [if_pos q, decide_eq_false (fun e => e q)]; rfl
    · rw [if_neg q, decide_eq_true q]; rfl
theorem alikeP_is (a b : List S64) : ∀ (cols key : List Int), cols.length = key.length → inR a cols → inR b key → alikeP a b cols key = some (decide (vals a cols = vals b key))
  | [], [], _, _, _ => rfl
  | [], _ :: _, h, _, _ => by simp at h
  | _ :: _, [], h, _, _ => by simp at h
  | c :: cs, q :: qs, h, h1, h2 => by
    have g1 := h1 c (by simp)
    have g2 := h2 q (by simp)
    rw [alikeP, if_pos ⟨g1.1, g1.2, g2.1, g2.2⟩, alikeP_is a b cs qs (by simpa using h) (fun x hx => h1 x (by simp [hx])) (fun x hx => h2 x (by simp [hx]))]
    unfold vals
    rw [List.map_cons, List.map_cons]
    by_cases e : rd_T64 a c = rd_T64 b q
    · rw [if_pos e, e]; simp
    · rw [if_neg e, decide_eq_false (fun hh => e (List.cons.inj hh).1)]
theorem pick_is (row : List S64) : ∀ (cols : List Int) (i : Nat) (t : List S64), inR row cols → i + cols.length ≤ 8 → t.length = 8 → ∃ u, pickP row i cols t = some (u, fullB row cols) ∧ u.length = 8 ∧ u.take i = t.take i ∧
    (fullB row cols = true → u = t.take i ++ (vals row cols ++ t.drop (i + cols.length))) ∧ (fullB row cols = false → ∃ j x, j < cols.length ∧ u[i + j]? = some x ∧ x.f0 = 0)
  | [], i, t, _, _, ht => ⟨t, rfl, ht, rfl, fun _ => by simp [vals], fun h => by simp [fullB] at h⟩
  | c :: r, i, t, h, h8, ht => by
    have g := h c (by simp)
    rw [List.length_cons] at h8
    rw [pickP, if_pos ⟨by omega, g.1, g.2⟩]
    by_cases q : (rd_T64 row c).f0 = 0
    · have hf : fullB row (c :: r) = false := by unfold fullB; rw [List.all_cons, decide_eq_false (fun e => e q)]; rfl
      rw [if_pos q, hf]
      refine ⟨_, rfl, by simpa using ht, by rw [List.take_set_of_le (Nat.le_refl i)], (fun e => by cases e), fun _ => ⟨0, rd_T64 row c, by simp, by rw [Nat.add_zero, List.getElem?_set_self (by omega)], q⟩⟩
    · have hf : fullB row (c :: r) = fullB row r := by unfold fullB; rw [List.all_cons, decide_eq_true q]; rfl
      obtain ⟨u, h1, h2, h3, h4, h5⟩ := pick_is row r (i + 1) (t.set i (rd_T64 row c)) (fun x hx => h x (by simp [hx])) (by omega) (by simpa using ht)
      have ht1 : (t.set i (rd_T64 row c)).take (i + 1) = t.take i ++ [rd_T64 row c] := by
        rw [List.take_add_one, List.getElem?_set_self (by omega), List.take_set_of_le (Nat.le_refl i)]; rfl
      rw [if_neg q, hf]
      refine ⟨u, h1, h2, ?_, fun e => ?_, fun e => ?_⟩
      · have := congrArg (List.take i) h3
        rw [ht1, List.take_take, List.take_append_of_le_length (by rw [List.length_take]; omega), List.take_take] at this
        simpa using this
      · rw [h4 e, ht1, List.drop_set_of_lt (by omega), List.length_cons, List.append_assoc]
        unfold vals
        rw [List.map_cons, show i + 1 + r.length = i + (r.length + 1) by omega]
        rfl
      · obtain ⟨j, x, hj, hx, h0⟩ := h5 e
        exact ⟨j + 1, x, by rw [List.length_cons]; omega, by rw [← hx]; congr 1; omega, h0⟩
def pad (n : Nat) : List S64 := tup0.drop n
theorem pick0 (row : List S64) (cols : List Int) (h : inR row cols) (h8 : cols.length ≤ 8) : ∃ u, pickP row 0 cols tup0 = some (u, fullB row cols) ∧ (fullB row cols = true → u = vals row cols ++ pad cols.length) ∧
    (fullB row cols = false → ∀ v : List S64, v.length = cols.length → (∀ x ∈ v, x.f0 ≠ 0) → v ++ pad cols.length ≠ u) := by
  obtain ⟨u, h1, h2, _, h4, h5⟩ := pick_is row cols 0 tup0 h (by omega) rfl
  refine ⟨u, h1, fun e => by simpa [pad] using h4 e, fun e v hv hx hu => ?_⟩
  obtain ⟨j, x, hj, hxj, h0⟩ := h5 e
  rw [Nat.zero_add, ← hu, List.getElem?_append_left (by omega)] at hxj
  exact hx x (List.mem_of_getElem? hxj) h0
theorem vals_len (row : List S64) (cols : List Int) : (vals row cols).length = cols.length := by unfold vals; rw [List.length_map]

/-! #### keys -/
def KB (key : List Int) : List (List S64) → List (List S64) → Bool
  | _, [] => true
  | p, row :: r => if (fullB row key && p.any fun y => decide (vals row key = vals y key)) = true then false else KB key (p ++ [row]) r
theorem keyRows_is (key : List Int) (h8 : key.length ≤ 8) : ∀ (rows S p : List (List S64)), (∀ row ∈ rows, inR row key) →
    (∀ v : List S64, v.length = key.length → (∀ x ∈ v, x.f0 ≠ 0) → (v ++ pad key.length ∈ S ↔ ∃ y ∈ p, v = vals y key)) → keyRowsP key rows S = some (KB key p rows)
  | [], _, _, _, _ => rfl
  | row :: r, S, p, h, hS => by
    obtain ⟨u, h1, h2, h3⟩ := pick0 row key (h row (by simp)) h8
    rw [keyRowsP, h1, Option.bind_some, KB]
    cases hf : fullB row key with
    | true =>
      have hfull := (fullB_vals row key).1 hf
      have hu := h2 hf
      have hm : memP u S = p.any fun y => decide (vals row key = vals y key) := by
        rw [Bool.eq_iff_iff, memP_iff, hu, hS _ (vals_len row key) hfull, List.any_eq_true]
        constructor
        · rintro ⟨y, hy, e⟩; exact ⟨y, hy, decide_eq_true e⟩
        · rintro ⟨y, hy, e⟩; exact ⟨y, hy, of_decide_eq_true e⟩
      simp only [Bool.true_and, if_true]
      rw [hm]
      cases hq : p.any fun y => decide (vals row key = vals y key) with
      | true => rfl
      | false =>
        rw [if_neg (by decide), if_neg (by decide)]
        refine keyRows_is key h8 r _ _ (fun x hx => h x (by simp [hx])) (fun v hv hx => ?_)
        rw [List.mem_cons, hS v hv hx, hu]
        constructor
        · rintro (e | ⟨y, hy, e⟩)
          · exact ⟨row, by simp, (List.append_inj e (by rw [hv, vals_len])).1⟩
          · exact ⟨y, by simp [hy], e⟩
        · rintro ⟨y, hy, e⟩
          rcases List.mem_append.1 hy with hy | hy
          · exact .inr ⟨y, hy, e⟩
          · left; rw [e, List.mem_singleton.1 hy]
    | false =>
      simp only [Bool.false_and, Bool.false_eq_true, if_false]
      refine keyRows_is key h8 r _ _ (fun x hx => h x (by simp [hx])) (fun v hv hx => ?_)
      rw [hS v hv hx]
      constructor
      · rintro ⟨y, hy, e⟩; exact ⟨y, by simp [hy], e⟩
      · rintro ⟨y, hy, e⟩
        rcases List.mem_append.1 hy with hy | hy
        · exact ⟨y, hy, e⟩
        · rw [List.mem_singleton.1 hy] at e
          have : fullB row key = true := (fullB_vals row key).2 (by rw [← e]; exact hx)
          rw [hf] at this; cases this
theorem khIn_is (x : List S64) (key : List Int) (hx : inR x key) : ∀ l : List (List S64), (∀ row ∈ l, inR row key) → khIn x key l = some (l.any fun y => decide (vals x key = vals y key))
  | [], _ => rfl
  | y :: r, h => by
    rw [khIn, alikeP_is x y key key rfl hx (h y (by simp)), Option.bind_some, khIn_is x key hx r (fun z hz => h z (by simp [hz])), List.any_cons]
    cases decide (vals x key = vals y key) <;> rfl
theorem kh_is (rows : List (List S64)) (key : List Int) (h : ∀ row ∈ rows, inR row key) : ∀ (d i : Nat), i + d = rows.length → khP rows key d i = some (KB key (rows.take i) (rows.drop i)) := by
  intro d
  induction d with
  | zero => intro i hi; rw [khP, List.drop_eq_nil_of_le (by omega)]; rfl
  | succ d ih =>
    intro i hi
    have hlt : i < rows.length := by omega
    have hrow := h _ (List.getElem_mem hlt)
    rw [khP, rdL12 hlt, fullP_is _ _ hrow, Option.bind_some, khIn_is _ _ hrow _ (fun z hz => h z (List.mem_of_mem_take hz)), Option.bind_some, ih (i + 1) (by omega), List.drop_eq_getElem_cons hlt, KB, List.take_add_one, List.getElem?_eq_getElem hlt]
    cases fullB rows[i] key <;> cases ((rows.take i).any fun y => decide (vals rows[i] key = vals y key)) <;> rfl
theorem keys_is (rows : List (List S64)) : ∀ keys : List (List Int), (∀ key ∈ keys, key.length ≤ 8 ∧ ∀ row ∈ rows, inR row key) → keysP rows keys = some (keys.all fun k => KB k [] rows) ∧ refKeysP rows keys = some (keys.all fun k => KB k [] rows)
  | [], _ => ⟨rfl, rfl⟩
  | k :: r, h => by
    obtain ⟨h1, h2⟩ := keys_is rows r (fun x hx => h x (by simp [hx]))
    obtain ⟨g1, g2⟩ := h k (by simp)
    rw [keysP, refKeysP, keyRows_is k g1 rows [] [] g2 (fun v _ _ => by simp), kh_is rows k g2 rows.length 0 (by omega), Option.bind_some, Option.bind_some, h1, h2, List.all_cons, List.take_zero, List.drop_zero]
    cases KB k [] rows <;> exact ⟨rfl, rfl⟩

/-! #### references -/
def RB (cols key : List Int) (others rows : List (List S64)) : Bool := rows.all fun row => !(fullB row cols) || others.any fun y => decide (vals row cols = vals y key)
theorem known_is (key : List Int) (h8 : key.length ≤ 8) : ∀ (others S : List (List S64)), (∀ row ∈ others, inR row key) → ∃ S', knownP key others S = some S' ∧
    ∀ v : List S64, v.length = key.length → (∀ x ∈ v, x.f0 ≠ 0) → (v ++ pad key.length ∈ S' ↔ v ++ pad key.length ∈ S ∨ ∃ y ∈ others, v = vals y key)
  | [], S, _ => ⟨S, rfl, fun v _ _ => by simp⟩
  | row :: r, S, h => by
    obtain ⟨u, h1, h2, h3⟩ := pick0 row key (h row (by simp)) h8
    obtain ⟨S', e, hS⟩ := known_is key h8 r (u :: S) (fun x hx => h x (by simp [hx]))
    refine ⟨S', by rw [knownP, h1, Option.bind_some]; exact e, fun v hv hx => ?_⟩
    rw [hS v hv hx, List.mem_cons]
    cases hf : fullB row key with
    | true =>
      rw [h2 hf]
      constructor
      · rintro ((e | e) | ⟨y, hy, e⟩)
        · exact .inr ⟨row, by simp, (List.append_inj e (by rw [hv, vals_len])).1⟩
        · exact .inl e
        · exact .inr ⟨y, by simp [hy], e⟩
      · rintro (e | ⟨y, hy, e⟩)
        · exact .inl (.inr e)
        · rcases List.mem_cons.1 hy with rfl | hy
          · exact .inl (.inl (by rw [e]))
          · exact .inr ⟨y, hy, e⟩
    | false =>
      have := h3 hf v hv hx
      constructor
      · rintro ((e | e) | ⟨y, hy, e⟩)
        · exact absurd e this
        · exact .inl e
        · exact .inr ⟨y, by simp [hy], e⟩
      · rintro (e | ⟨y, hy, e⟩)
        · exact .inl (.inr e)
        · rcases List.mem_cons.1 hy with rfl | hy
          · have hc : fullB y key = true := (fullB_vals y key).2 (by rw [← e]; exact hx)
            rw [hf] at hc; cases hc
          · exact .inr ⟨y, hy, e⟩
theorem allKnown_is (cols key : List Int) (hl : cols.length = key.length) (h8 : key.length ≤ 8) (others S : List (List S64))
    (hS : ∀ v : List S64, v.length = key.length → (∀ x ∈ v, x.f0 ≠ 0) → (v ++ pad key.length ∈ S ↔ ∃ y ∈ others, v = vals y key)) : ∀ rows : List (List S64), (∀ row ∈ rows, inR row cols) → allKnownP cols S rows = some (RB cols key others rows)
  | [], _ => rfl
  | row :: r, h => by
    obtain ⟨u, h1, h2, h3⟩ := pick0 row cols (h row (by simp)) (by omega)
    have ih := allKnown_is cols key hl h8 others S hS r (fun x hx => h x (by simp [hx]))
    unfold RB at ih ⊢
    rw [allKnownP, h1, Option.bind_some, ih, List.all_cons]
    cases hf : fullB row cols with
    | false => simp
    | true =>
      have hfull := (fullB_vals row cols).1 hf
      have hm : memP u S = others.any fun y => decide (vals row cols = vals y key) := by
        rw [Bool.eq_iff_iff, memP_iff, h2 hf, hl, hS _ (by rw [vals_len, hl]) hfull, List.any_eq_true]
        constructor
        · rintro ⟨y, hy, e⟩; exact ⟨y, hy, decide_eq_true e⟩
        · rintro ⟨y, hy, e⟩; exact ⟨y, hy, of_decide_eq_true e⟩
      simp only [Bool.true_and, Bool.not_true, Bool.false_or]
      rw [hm]
      cases others.any fun y => decide (vals row cols = vals y key) <;> simp
theorem rhIn_true (row : List S64) (cols key : List Int) : ∀ l : List (List S64), rhIn row cols key true l = some true
  | [] => rfl
  | _ :: _ => rfl
theorem rhIn_is (row : List S64) (cols key : List Int) (hl : cols.length = key.length) (hr : inR row cols) : ∀ l : List (List S64), (∀ y ∈ l, inR y key) → rhIn row cols key false l = some (l.any fun y => decide (vals row cols = vals y key))
  | [], _ => rfl
  | y :: r, h => by
    rw [rhIn, alikeP_is row y cols key hl hr (h y (by simp)), Option.bind_some, List.any_cons]
    cases decide (vals row cols = vals y key) with
    | true => rw [rhIn_true]; rfl
    | false => rw [rhIn_is row cols key hl hr r (fun z hz => h z (by simp [hz])), Bool.false_or]
theorem rh_is (cols key : List Int) (hl : cols.length = key.length) (others : List (List S64)) (ho : ∀ y ∈ others, inR y key) : ∀ rows : List (List S64), (∀ row ∈ rows, inR row cols) → rhP cols others key rows = some (RB cols key others rows)
  | [], _ => rfl
  | row :: r, h => by
    have ih := rh_is cols key hl others ho r (fun x hx => h x (by simp [hx]))
    unfold RB at ih ⊢
    rw [rhP, fullP_is row cols (h row (by simp)), Option.bind_some, ih, List.all_cons]
    cases fullB row cols with
    | false => rw [Bool.not_false, rhIn_true, Option.bind_some]; rfl
    | true =>
      rw [Bool.not_true, rhIn_is row cols key hl (h row (by simp)) others ho, Option.bind_some, Bool.false_or]
      cases others.any fun y => decide (vals row cols = vals y key) <;> rfl
def refHB (s : List S49) (d : List (List (List S64))) (n : Nat) (r : S75) : Bool := RB r.f0 (rd_L6 (rd_T49 s r.f1).f2 r.f2) (rd_L13 d r.f1) (rd_L13 d n)
/-- A reference that can be followed. -/
def RefOk (s : List S49) (d : List (List (List S64))) (n : Nat) (r : S75) : Prop :=
  0 ≤ r.f1 ∧ r.f1 < (s.length : Int) ∧ r.f1 < (d.length : Int) ∧ 0 ≤ r.f2 ∧ r.f2 < ((rd_T49 s r.f1).f2.length : Int) ∧ r.f0.length = (rd_L6 (rd_T49 s r.f1).f2 r.f2).length ∧ (rd_L6 (rd_T49 s r.f1).f2 r.f2).length ≤ 8 ∧
    (∀ row ∈ rd_L13 d n, inR row r.f0) ∧ (∀ y ∈ rd_L13 d r.f1, inR y (rd_L6 (rd_T49 s r.f1).f2 r.f2))
theorem refs_is (s : List S49) (d : List (List (List S64))) (n : Nat) : ∀ l : List S75, (∀ r ∈ l, RefOk s d n r) → refsP s d n l = some (l.all (refHB s d n)) ∧ refRefsP s d n l = some (l.all (refHB s d n))
  | [], _ => ⟨rfl, rfl⟩
  | r :: l, h => by
    obtain ⟨h1, h2⟩ := refs_is s d n l (fun x hx => h x (by simp [hx]))
    obtain ⟨q1, q2, q3, q4, q5, q6, q7, q8, q9⟩ := h r (by simp)
    obtain ⟨S', e, hS⟩ := known_is _ q7 (rd_L13 d r.f1) [] q9
    rw [refsP, refRefsP, refP, if_pos ⟨q1, q2, q3, q4, q5⟩, if_pos ⟨q1, q2, q3, q4, q5⟩, e, Option.bind_some, allKnown_is r.f0 _ q6 q7 (rd_L13 d r.f1) S' (fun v hv hx => by rw [hS v hv hx]; simp) _ q8, rh_is r.f0 _ q6 _ q9 _ q8, Option.bind_some, Option.bind_some, h1, h2, List.all_cons]
    unfold refHB
    cases RB r.f0 (rd_L6 (rd_T49 s r.f1).f2 r.f2) (rd_L13 d r.f1) (rd_L13 d n) <;> exact ⟨rfl, rfl⟩

/-! #### data -/
def holdsB (s : List S49) (d : List (List (List S64))) : Nat → Nat → Bool
  | 0, _ => true
  | g + 1, i => ((rd_T49 s i).f2.all fun k => KB k [] (rd_L13 d i)) && ((rd_T49 s i).f3.all (refHB s d i) && holdsB s d g (i + 1))
def dataB (s : List S49) (d : List (List (List S64))) : Bool := validB s && (decide (d.length = s.length) && (dataFitP s d && holdsB s d s.length 0))
theorem rowsFit_len {t : S49} : ∀ {rows : List (List S64)}, rowsFitP t rows = true → ∀ row ∈ rows, row.length = t.f1.length
  | [], _, row, h => by cases h
  | x :: r, h, row, hm => by
    rw [rowsFitP] at h
    split at h
    · rename_i q
      rcases List.mem_cons.1 hm with rfl | hm
      · unfold fitsRowP at q
        split at q
        · assumption
        · cases q
      · exact rowsFit_len h row hm
    · cases h
theorem dataFit_at : ∀ {s : List S49} {d : List (List (List S64))}, dataFitP s d = true → ∀ (n : Nat), n < s.length → n < d.length → (rd_L13 d (n : Int)).length ≤ 1000 ∧ rowsFitP (rd_T49 s (n : Int)) (rd_L13 d (n : Int)) = true
  | [], _, _, n, h1, _ => by simp at h1
  | _ :: _, [], _, n, _, h2 => by simp at h2
  | t :: s, rows :: d, h, n, h1, h2 => by
    rw [dataFitP] at h
    split at h
    · cases h
    rename_i q
    split at h
    · rename_i q2
      cases n with
      | zero => exact ⟨by show rows.length ≤ 1000; omega, q2⟩
      | succ n =>
        have := dataFit_at h n (by simpa using h1) (by simpa using h2)
        have e1 : rd_T49 (t :: s) ((n + 1 : Nat) : Int) = rd_T49 s (n : Int) := by unfold rd_T49; simp
        have e2 : rd_L13 (rows :: d) ((n + 1 : Nat) : Int) = rd_L13 d (n : Int) := by unfold rd_L13; simp
        rw [e1, e2]; exact this
    · cases h
theorem tabsB_at (s : List S49) : ∀ (d i : Nat), i + d = s.length → tabsB s d i = true → ∀ j, i ≤ j → j < s.length → tabB (s.take j) (rd_T49 s (j : Int)) = true := by
  intro d
  induction d with
  | zero => intro i hi _ j h1 h2; omega
  | succ d ih =>
    intro i hi h j h1 h2
    rw [tabsB, Bool.and_eq_true] at h
    by_cases e : j = i
    · rw [e]; exact h.1
    · exact ih (i + 1) (by omega) h.2 j (by omega) h2
theorem validB_at {s : List S49} (h : validB s = true) : s.length ≤ 16 ∧ ∀ j, j < s.length → tabB (s.take j) (rd_T49 s (j : Int)) = true := by
  unfold validB at h
  simp only [Bool.and_eq_true] at h
  exact ⟨of_decide_eq_true h.1, fun j hj => tabsB_at s s.length 0 (by omega) h.2.2 j (by omega) hj⟩
theorem kindsG_in (tc oc : List S78) (all key : List Int) : ∀ (d i : Nat), i + d = all.length → kindsG tc oc all key d i = true → ∀ j, i ≤ j → j < all.length → 0 ≤ rd all (j : Int) ∧ rd all (j : Int) < (tc.length : Int) := by
  intro d
  induction d with
  | zero => intro i hi _ j h1 h2; omega
  | succ d ih =>
    intro i hi h j h1 h2
    rw [kindsG] at h
    split at h
    · cases h
    split at h
    · cases h
    split at h
    · by_cases e : j = i
      · rw [e]; omega
      · exact ih (i + 1) (by omega) h j (by omega) h2
    · cases h
/-- What a valid scheme's references are good for, at data that fit. -/
theorem ref_ok {s : List S49} (hv : validB s = true) {d : List (List (List S64))} (hl : d.length = s.length) (hfit : ∀ n, n < s.length → ∀ row ∈ rd_L13 d (n : Int), row.length = (rd_T49 s (n : Int)).f1.length)
    (n : Nat) (hn : n < s.length) : ∀ r ∈ (rd_T49 s (n : Int)).f3, RefOk s d n r := by
  intro r hr
  obtain ⟨h16, hat⟩ := validB_at hv
  have hb := (tabB_facts (hat n hn)).2.2 r hr
  have hlen : (s.take n).length = n := by rw [List.length_take]; omega
  unfold refB at hb
  rw [hlen] at hb
  split at hb
  · cases hb
  split at hb
  · cases hb
  split at hb
  · cases hb
  rename_i q1 q2 q3
  rw [rd49_take (by omega) (by omega)] at hb
  split at hb
  · cases hb
  rename_i q4
  split at hb
  case isFalse => cases hb
  rename_i q5
  rw [Bool.and_eq_true] at hb
  have hj : r.f1.toNat < s.length := by omega
  have htab := tabB_facts (hat r.f1.toNat hj)
  rw [Int.toNat_of_nonneg (by omega)] at htab
  have hris := htab.2.1 _ (rdL6_mem (s := (rd_T49 s r.f1).f2) (i := r.f2) (by omega) (by omega))
  have hkin := kindsG_in _ _ _ _ r.f0.length 0 (by omega) hb.1
  refine ⟨by omega, by omega, by omega, by omega, by omega, by omega, ?_, ?_, ?_⟩
  · have h1 := risB_len hris (by omega)
    have := htab.1
    omega
  · intro row hrow c hc
    obtain ⟨j, hj, rfl⟩ := List.getElem_of_mem hc
    have := hkin j (by omega) hj
    rw [rd_at hj] at this
    rw [hfit n hn row hrow]
    exact this
  · intro y hy q hq
    have h1 := hfit r.f1.toNat hj y (by rw [Int.toNat_of_nonneg (by omega)]; exact hy)
    rw [Int.toNat_of_nonneg (by omega)] at h1
    rw [h1]
    exact risB_in hris q hq
theorem key_ok {s : List S49} (hv : validB s = true) (n : Nat) (hn : n < s.length) {rows : List (List S64)} (hfit : ∀ row ∈ rows, row.length = (rd_T49 s (n : Int)).f1.length) : ∀ key ∈ (rd_T49 s (n : Int)).f2, key.length ≤ 8 ∧ ∀ row ∈ rows, inR row key := by
  intro key hk
  have htab := tabB_facts ((validB_at hv).2 n hn)
  have hris := htab.2.1 key hk
  refine ⟨?_, fun row hrow q hq => ?_⟩
  · have h1 := risB_len hris (by omega)
    have := htab.1
    omega
  · rw [hfit row hrow]; exact risB_in hris q hq
theorem holds_is {s : List S49} (hv : validB s = true) {d : List (List (List S64))} (hl : d.length = s.length) (hfit : dataFitP s d = true) : ∀ (g i : Nat), i + g = s.length → holdsP s d i (d.drop i) = some (holdsB s d g i) ∧ refHoldsP s d g i = some (holdsB s d g i) := by
  have hrow : ∀ n, n < s.length → ∀ row ∈ rd_L13 d (n : Int), row.length = (rd_T49 s (n : Int)).f1.length := fun n hn => rowsFit_len (dataFit_at hfit n hn (by omega)).2
  intro g
  induction g with
  | zero => intro i hi; rw [List.drop_eq_nil_of_le (by omega)]; exact ⟨rfl, rfl⟩
  | succ g ih =>
    intro i hi
    obtain ⟨h1, h2⟩ := ih (i + 1) (by omega)
    obtain ⟨k1, k2⟩ := keys_is (rd_L13 d (i : Int)) _ (key_ok hv i (by omega) (hrow i (by omega)))
    obtain ⟨r1, r2⟩ := refs_is s d i _ (ref_ok hv hl hrow i (by omega))
    rw [List.drop_eq_getElem_cons (by omega : i < d.length), holdsP, refHoldsP, ← rdL13 (by omega : i < d.length), k1, k2, r1, r2, holdsB, Option.bind_some, Option.bind_some, Option.bind_some, Option.bind_some, h1, h2]
    cases ((rd_T49 s (i : Int)).f2.all fun k => KB k [] (rd_L13 d (i : Int))) <;> cases (rd_T49 s (i : Int)).f3.all (refHB s d i) <;> exact ⟨rfl, rfl⟩
theorem data_is (s : List S49) (hw : ∀ t ∈ s, wfT t) (d : List (List (List S64))) : Ev (fun k => dataP k s d) (dataB s d) := by
  obtain ⟨K, hK⟩ := valid_is s hw
  refine ⟨K, fun k hk => ?_⟩
  have h := hK k hk
  simp only at h
  show dataP k s d = _
  unfold dataP dataB
  rw [h, Option.bind_some]
  cases hv : validB s with
  | false => rfl
  | true =>
    rw [if_pos rfl]
    by_cases q : d.length = s.length
    · rw [if_pos q, decide_eq_true q]
      cases hf : dataFitP s d with
      | false => rfl
      | true =>
        have := (holds_is hv q hf s.length 0 (by omega)).1
        rw [List.drop_zero] at this
        rw [if_pos rfl, this]; rfl
    · rw [if_neg q, decide_eq_false q]; rfl

/-! #### where a table stands -/
theorem find_G (nm : ByteArray) : ∀ (l : List S49) (i : Nat), (0 ≤ findP nm i l → refFindG nm i l = (findP nm i l, true)) ∧ (¬ 0 ≤ findP nm i l → refFindG nm i l = (0, false))
  | [], i => ⟨fun h => by rw [findP] at h; omega, fun _ => rfl⟩
  | t :: l, i => by
    rw [findP, refFindG]
    by_cases q : t.f0 = nm
    · rw [if_pos ((ba_eq _ _).2 q), if_pos q]
      exact ⟨fun _ => rfl, fun h => absurd (by omega) h⟩
    · rw [if_neg (fun e => q ((ba_eq _ _).1 e)), if_neg q]
      exact find_G nm l (i + 1)
def findB (s : List S49) (nm : ByteArray) : Int × Bool := if validB s = true then refFindG nm 0 s else (0, false)
end Go.Proofs.YthgfdnffnbclpaaGreatDoor.PAll
namespace Go.Proofs.YthgfdnffnbclpaaGreatDoor.PAll
open Go.RowKit Go.Proofs.YthgfdnffnbclpaaGreatDoorW.PrintWords Go.Proofs.YthgfdnffnbclpaaGreatDoorW.PrintLast Go.Proofs.YthgfdnffnbclpaaGreatDoorW.PrintMore

theorem dataB_facts {s : List S49} {d : List (List (List S64))} (h : dataB s d = true) : validB s = true ∧ d.length = s.length ∧ dataFitP s d = true ∧ holdsB s d s.length 0 = true := by
  unfold dataB at h
  simp only [Bool.and_eq_true] at h
  exact ⟨h.1, of_decide_eq_true h.2.1, h.2.2.1, h.2.2.2⟩
theorem fit_rows {s : List S49} {d : List (List (List S64))} (h : dataB s d = true) : ∀ n, n < s.length → ∀ row ∈ rd_L13 d (n : Int), row.length = (rd_T49 s (n : Int)).f1.length := by
  obtain ⟨hv, hl, hf, _⟩ := dataB_facts h
  exact fun n hn => rowsFit_len (dataFit_at hf n hn (by omega)).2
theorem find_pos {s : List S49} (hv : validB s = true) (nm : ByteArray) : (0 ≤ findP nm 0 s → findB s nm = (findP nm 0 s, true)) ∧ (¬ 0 ≤ findP nm 0 s → findB s nm = (0, false)) := by
  unfold findB
  rw [if_pos hv]
  exact find_G nm s 0
end Go.Proofs.YthgfdnffnbclpaaGreatDoor.PAll
namespace Go.Proofs.YthgfdnffnbclpaaGreatDoor.PAll
open Go.RowKit Go.Proofs.YthgfdnffnbclpaaGreatDoorW.PrintWords Go.Proofs.YthgfdnffnbclpaaGreatDoorW.PrintLast Go.Proofs.YthgfdnffnbclpaaGreatDoorW.PrintMore

abbrev Rows := List (List S64)
abbrev Data := List Rows
def wfRows (l : Rows) : Prop := ∀ row ∈ l, ∀ x ∈ row, wfV x
def wfData (d : Data) : Prop := ∀ rows ∈ d, wfRows rows

section
variable {P : Program} {ops : Array Oper} {Q : Exit → Act → World → Prop}
theorem step_store_run {oi : Oper} {a : Act} {W W' : World} {K : Act → World → Prop} (hw : Region.wanted oi (yielded ops a.tmps) = true) (t : TypeId) (p x : Operand) (ho : oi.op = .store t p x) (hN : oi.dst = none) {pv u : Value} (hp : a.eval p = pv) (hx : a.eval x = u)
    (hrun : (Instr.storeAt t pv u).run P W = .ok () W') (h : K a W') : if Region.wanted oi (yielded ops a.tmps) = true then Oper.wp P oi a W K Q else K (a.put none undef) W := by
  rw [if_pos hw]
  unfold Oper.wp
  simp only [execOp, ho, hp, hx, hrun, Result.andThen, Sem.run_bind]
  show K (a.put oi.dst undef) W'
  rw [hN]
  exact h
end

/-- The first error of some rows. -/
def errsP (t : S49) : Rows → Int
  | [] => 0
  | row :: r => if fitsRowP t.f1 row = 0 then errsP t r else fitsRowP t.f1 row
def insertP (k : Nat) (s : List S49) (d : Data) (nm : ByteArray) (rows : Rows) : Option (Data × Int) :=
  (dataP k s d).bind fun v =>
    if v = true then
      if findP nm 0 s < 0 then some ([], 71)
      else if errsP (rd_T49 s (findP nm 0 s)) rows = 0 then
        if ((rd_L13 d (findP nm 0 s)).length : Int) + (rows.length : Int) > 1000 then some ([], 72)
        else
          (keysP (rd_L13 d (findP nm 0 s) ++ rows) (rd_T49 s (findP nm 0 s)).f2).bind fun a =>
            if a = true then
              (refsP s (d.set (findP nm 0 s).toNat (rd_L13 d (findP nm 0 s) ++ rows)) (findP nm 0 s) (rd_T49 s (findP nm 0 s)).f3).bind fun b =>
                if b = true then some (d.set (findP nm 0 s).toNat (rd_L13 d (findP nm 0 s) ++ rows), 0) else some ([], 77)
            else some ([], 76)
      else some ([], errsP (rd_T49 s (findP nm 0 s)) rows)
    else some ([], 1)

theorem findP_range (nm : ByteArray) : ∀ (s : List S49) (i : Nat), findP nm i s < 0 ∨ ((i : Int) ≤ findP nm i s ∧ findP nm i s < (i + s.length : Nat))
  | [], i => by simp [findP]
  | t :: s, i => by
    unfold findP
    split
    · right; simp; omega
    · rcases findP_range nm s (i + 1) with h | h
      · exact .inl h
      · right; simp at h ⊢; omega
theorem dataP_len {k : Nat} {s : List S49} {d : Data} (h : dataP k s d = some true) : d.length = s.length := by
  unfold dataP at h
  obtain ⟨v, _, h⟩ := Option.bind_eq_some_iff.mp h
  split at h
  · split at h
    · assumption
    · cases h
  · cases h
theorem C_nil {α : Type} (d : Kd α) (w : World) : Kd.C d w none 0 [] := (Kd.R_reads' (Kd.R_nil d 0 w 0 (fun _ => True))).2.2

set_option maxHeartbeats 4000000 in
set_option maxRecDepth 100000 in
theorem insertS_walk (k : Nat) (A0 : Option Addr) (c0 : Nat) (s : List S49) (A1 : Option Addr) (c1 : Nat) (d : Data) (nm : ByteArray) (A3 : Option Addr) (c3 : Nat) (rows : Rows) (r1 : Data) (r2 : Int) (w : World)
    (hS : Kd.C k49 w A0 s.length s) (hc0 : s.length ≤ c0) (hD : Kd.C (Kd.slice 89 (Kd.slice 87 k64)) w A1 d.length d) (hc1 : d.length ≤ c1) (hR : Kd.C (Kd.slice 87 k64) w A3 rows.length rows) (hc3 : rows.length ≤ c3)
    (hwd : wfData d) (hwr : wfRows rows) (hsd : dataP k s d = some true → smallData d) (hrl : rows.length ≤ 6000000000000) (hsr : dataP k s d = some true → 0 ≤ findP nm 0 s → errsP (rd_T49 s (findP nm 0 s)) rows = 0 → rows.length ≤ 1000 → smallRows rows) (hL : LaidL w) (h : insertP k s d nm rows = some (r1, r2)) :
    Calls Tryz.prog 22 #[.slice A0 s.length c0, .slice A1 d.length c1, .string nm, .slice A3 rows.length c3] w fun e w' => ∃ v0 : Value, e = .returned (.tuple #[v0, .int .i64 r2]) ∧ Kd.S (Kd.slice 89 (Kd.slice 87 k64)) 41 w' w.heap.size (fun _ => True) v0 r1 ∧ Below w.heap.size w w' := by
  have HS := Aside0.mk hS
  have HD := Aside0.mk hD
  have HR := Aside0.mk hR
  have HWD := Aside0.mk hwd
  have HWR := Aside0.mk hwr
  have HSD := Aside0.mk hsd
  have HSR := Aside0.mk hsr
  have HRL := Aside0.mk hrl
  have HB0 := Aside0.mk (Below.refl w.heap.size w)
  have HNIL : Aside0 (∀ W, Kd.C (Kd.slice 89 (Kd.slice 87 k64)) W none 0 ([] : Data)) := ⟨fun W => C_nil _ W⟩
  unfold insertP at h
  obtain ⟨v, hv, h⟩ := Option.bind_eq_some_iff.mp h
  have HV := Aside0.mk (validData_walk k A0 c0 s A1 c1 d v w hS hc0 hD hc1 hwd hL hv)
  have HF : Aside0 (∀ W, Below w.heap.size w W → Calls Tryz.prog 33 #[.slice A0 s.length c0, .string nm] W fun e w' => e = .returned (.int .i64 (findP nm 0 s)) ∧ Below W.heap.size W w') := ⟨fun W hW => scheme_find.calls A0 c0 s nm _ W (Kd.C_below hS hW) hc0 rfl⟩
  have HH := Aside0.mk h
  have HVD := Aside0.mk hv
  clear hS hD hR hwd hwr hsd hsr hrl hL h hv
  go_enter Tryz.func22, Tryz.ntmps22
  cases v with
  | false =>
    have h := HH.out
    rw [if_neg (by decide)] at h
    cases h
    go_wp2_with (go_at_call 29; refine HV.out.mono ?_; rintro e w1 ⟨rfl, hb1⟩)
    go_ret2
    exact ⟨_, rfl, Kd.S_nil _ _ _ _ _, hb1⟩
  | true =>
    have h := HH.out
    rw [if_pos rfl] at h
    have HLEN := Aside0.mk (dataP_len HVD.out)
    have HSD2 := Aside0.mk (HSD.out HVD.out)
    have hrange := findP_range nm s 0
    generalize findP nm 0 s = n at *
    by_cases q : n < 0
    · rw [if_pos q] at h
      cases h
      have d1 : decide (n < 0) = true := decide_eq_true q
      clear q hrange HH
      go_wp2_with (first | (go_at_call 29; refine HV.out.mono ?_; rintro e w1 ⟨rfl, hb1⟩) | (go_at_call 33; refine (HF.out _ hb1).mono ?_; rintro e w2 ⟨rfl, hb2⟩))
      go_ret2
      exact ⟨_, rfl, Kd.S_nil _ _ _ _ _, below_step hb1 hb2⟩
    rw [if_neg q] at h
    have d1 : decide (n < 0) = false := decide_eq_false q
    have hn0 : 0 ≤ n := by omega
    have hns : n < (s.length : Int) := by omega
    have hnd : n < (d.length : Int) := by have := HLEN.out; omega
    clear q hrange HH
    have HP := Aside0.mk h
    clear h
    obtain ⟨at_, A1_, c1_, A2, c2, A3_, c3_, A4, c4, hAt, y0, y1, y2, y3, y4, g1, h1, g2, h2, g3, h3, g4, h4⟩ := at_T49 HS.out n hn0 hns
    cases hAt
    obtain ⟨ad, Ar, cr, hAd, hx, hcr, hCr⟩ := at_L13 HD.out n hn0 hnd
    cases hAd
    generalize ht : rd_T49 s n = t at *
    generalize hold : rd_L13 d n = old at *
    have HFR : Aside0 (∀ (A : Option Addr) (c : Nat) (row : List S64) (W : World), Below w.heap.size w W → Kd.C k64 W A row.length row → row.length ≤ c → Calls Tryz.prog 69 #[.agg #[.string t.f0, .slice A1_ t.f1.length c1_, .slice A2 t.f2.length c2, .slice A3_ t.f3.length c3_, .slice A4 t.f4.length c4], .slice A row.length c] W fun e w' => e = .returned (.int .i64 (fitsRowP t.f1 row)) ∧ Below W.heap.size W w') := ⟨fun A c row W hW hC hc => fitsRow_walk t.f0 A1_ c1_ t.f1 A2 _ c2 A3_ _ c3_ A4 _ c4 A c row W (Kd.C_below h1 hW) g1 hC hc⟩
    have HY : Aside0 (∀ W, Below w.heap.size w W → W.cell? (at_.add (n.toNat * 5)) = some (.string t.f0) ∧ W.cell? ⟨(at_.add (n.toNat * 5)).block, (at_.add (n.toNat * 5)).off + 1, none⟩ = some (.slice A1_ t.f1.length c1_) ∧ W.cell? ⟨(at_.add (n.toNat * 5)).block, (at_.add (n.toNat * 5)).off + 2, none⟩ = some (.slice A2 t.f2.length c2) ∧ W.cell? ⟨(at_.add (n.toNat * 5)).block, (at_.add (n.toNat * 5)).off + 3, none⟩ = some (.slice A3_ t.f3.length c3_) ∧ W.cell? ⟨(at_.add (n.toNat * 5)).block, (at_.add (n.toNat * 5)).off + 4, none⟩ = some (.slice A4 t.f4.length c4)) := ⟨fun W hB =>
      ⟨(hB.cell (World.block_lt_of_cell? w _ y0)).trans y0, (hB.cell (World.block_lt_of_cell? w _ y1)).trans y1, (hB.cell (World.block_lt_of_cell? w _ y2)).trans y2, (hB.cell (World.block_lt_of_cell? w _ y3)).trans y3, (hB.cell (World.block_lt_of_cell? w _ y4)).trans y4⟩⟩
    have HX : Aside0 (∀ W, Below w.heap.size w W → W.cell? (ad.add n.toNat) = some (.slice Ar old.length cr)) := ⟨fun W hB => (hB.cell (World.block_lt_of_cell? w _ hx)).trans hx⟩
    have H2 := Aside0.mk h2
    have HG2 := Aside0.mk g2
    have HOL : Aside0 (old.length ≤ 2000000) := ⟨by rw [← hold]; unfold rd_L13; have hl : n.toNat < d.length := by omega
                                                    rw [List.getD_eq_getElem?_getD, List.getElem?_eq_getElem hl]; exact (HSD2.out.2 _ (List.getElem_mem hl)).1⟩
    have HT := Aside0.mk ht
    have HOLD := Aside0.mk hold
    clear y0 y1 y2 y3 y4 h1 g1 h2 g2 h3 g3 h4 g4 hx hcr hCr ht hold
    go_wp2_with (first | (go_at_call 29; refine HV.out.mono ?_; rintro e w1 ⟨rfl, hb1⟩) | (go_at_call 33; refine (HF.out _ hb1).mono ?_; rintro e w2 ⟨rfl, hb2⟩))
    have HW0 := Aside0.mk (below_step hb1 hb2)
    clear hb1 hb2 HV HF HB0 d1
    go_loopg [26] rows.length (fun gj v26 wx => ∃ (j : Nat), j + gj = rows.length ∧ v26 = .int .i64 j ∧ Aside0 (Below w.heap.size w wx) ∧ Aside0 (errsP t rows = errsP t (rows.drop j)))
    case atStart => exact ⟨0, by omega, rfl, HW0, ⟨by simp⟩⟩
    case round =>
      clear HW0
      obtain ⟨j, hj, rfl, HW, HE⟩ := hrel
      cases gk with
      | succ gk =>
        have hjlt : j < rows.length := by omega
        have hjj : (j : Int) < (rows.length : Int) := by omega
        have hj0 : (0 : Int) ≤ (j : Int) := by omega
        have hdrj : rows.drop j = rows[j] :: rows.drop (j + 1) := List.drop_eq_getElem_cons hjlt
        have hrdj : rd_L12 rows (j : Int) = rows[j] := by unfold rd_L12; simp [List.getD, hjlt]
        obtain ⟨adr, Aw, cw, hAw, hxw, hcw, hCw⟩ := at_L12 HR.out (j : Int) hj0 hjj
        cases hAw
        rw [hrdj] at hxw hcw hCw
        rw [Int.toNat_natCast] at hxw
        replace hxw := (HW.out.cell (World.block_lt_of_cell? w _ hxw)).trans hxw
        have he := HE.out
        rw [hdrj, errsP] at he
        generalize rows[j] = row at *
        obtain ⟨y0, y1, y2, y3, y4⟩ := HY.out wr HW.out
        have HN := Aside0.mk (HFR.out Aw cw row wr HW.out (Kd.C_below hCw HW.out) hcw)
        by_cases q : fitsRowP t.f1 row = 0
        · rw [if_pos q] at he
          have HE2 := Aside0.mk he
          have d1 : (fitsRowP t.f1 row == 0) = true := beq_iff_eq.mpr q
          have d2 : (fitsRowP t.f1 row != 0) = false := by rw [bne, d1]; rfl
          clear he q HE hCw hrdj hdrj HFR HY
          go_wp2_with (go_at_call 69; refine HN.out.mono ?_; rintro e w1 ⟨rfl, hb1⟩)
          go_roundg gk
          case measure => omega
          case rel => exact ⟨j + 1, by omega, by first | rfl | (simp; done) | (have := HR.out.2.1; simp; unfold wrap64; omega), ⟨below_step HW.out hb1⟩, HE2⟩
        · rw [if_neg q] at he
          have hp := HP.out
          rw [if_neg (by rw [he]; exact q), he] at hp
          cases hp
          have d1 : (fitsRowP t.f1 row == 0) = false := beq_eq_false_iff_ne.mpr q
          have d2 : (fitsRowP t.f1 row != 0) = true := by rw [bne, d1]; rfl
          clear q HE hCw hrdj hdrj HFR HY he HP
          go_wp2_with (go_at_call 69; refine HN.out.mono ?_; rintro e w1 ⟨rfl, hb1⟩)
          go_ret2
          exact ⟨_, by first | rfl | (simp; done), Kd.S_nil _ _ _ _ _, below_step HW.out hb1⟩
      | zero =>
        have e : rows.drop j = [] := List.drop_eq_nil_of_le (by omega)
        have he := HE.out
        rw [e, errsP] at he
        have hp := HP.out
        rw [if_pos he] at hp
        have hjj : ¬ (j : Int) < (rows.length : Int) := by omega
        have HE0 := Aside0.mk he
        clear he HE e HP
        have x0 := HX.out wr HW.out
        by_cases q : (old.length : Int) + (rows.length : Int) > 1000
        · rw [if_pos q] at hp
          cases hp
          have hwrap : wrap64 ((old.length : Int) + (rows.length : Int)) = (old.length : Int) + (rows.length : Int) := by
            have := HRL.out
            have := HOL.out
            unfold wrap64; omega
          have d1 : decide (1000 < (old.length : Int) + (rows.length : Int)) = true := decide_eq_true q
          clear q
          go_wp2
          go_ret2
          exact ⟨_, rfl, Kd.S_nil _ _ _ _ _, HW.out⟩
        rw [if_neg q] at hp
        have hwrap : wrap64 ((old.length : Int) + (rows.length : Int)) = (old.length : Int) + (rows.length : Int) := by unfold wrap64; omega
        have d1 : decide (1000 < (old.length : Int) + (rows.length : Int)) = false := decide_eq_false q
        have HP := Aside0.mk hp
        have HQ := Aside0.mk q
        clear q hp
        have HCD := Aside0.mk (copiedData_walk (some ad) c1 d wr (Kd.C_below HD.out HW.out) hc1 HSD2.out)
        have HDP : Aside0 (0 < d.length) := ⟨by omega⟩
        go_wp2_with (go_at_call 37; refine HCD.out.mono ?_; rintro e w1 ⟨v, rfl, ho, hb1⟩; obtain ⟨g, cap, ev, hg1, hg2, gcells, hgc⟩ := Kd.S_form ho HDP.out; subst ev)
        clear hwrap d1 x0 hjj
        have HB1 := Aside0.mk (below_step HW.out hb1)
        have HGW : Aside0 (w.heap.size ≤ g) := ⟨by have := HW.out.size; omega⟩
        obtain ⟨oki, cc, hcl, hM, hcc, hoki, hH⟩ := Kd.S_lend ho ([] : Rows) n hn0 hnd
        obtain ⟨vn, rfl, hRn⟩ := hM
        have hgetD : List.getD d n.toNat [] = old := HOLD.out
        rw [hgetD] at hRn
        obtain ⟨An, cn, rfl⟩ := Kd.R_slice hRn
        have hcell := hcc 0 _ rfl
        have hcell2 : w1.cell? ⟨g, n.toNat, none⟩ = some (.slice An old.length cn) := by simpa [Kd.slice] using hcell
        have HH0 := Aside0.mk (Kd.H_widen (Kd.H_drew hH))
        have HRN := Aside0.mk (Kd.R_drew hRn)
        have HOK := Aside0.mk hoki
        have hgne : some g ≠ (Value.slice An old.length cn).ownBlock := fun he => (hoki g (hRn.1 g he.symm)).2 rfl
        have HGNE := Aside0.mk hgne
        have HG2 := Aside0.mk hg2
        have HBD := Aside0.mk (below_drew1 HB1.out)
        have HWR1 := Aside0.mk (below_drew1 hb1)
        have HGC : Aside0 (w1.drew.heap[g]? = some (.cells gcells 41 (0, 0))) := ⟨hgc⟩
        have HGN : Aside0 (g < w1.drew.heap.size) := ⟨hg2⟩
        have hd : w1.drew.cell? ⟨g, n.toNat, none⟩ = some (.slice An old.length cn) := by exact hcell2
        clear hcell hcell2 hcc hH hRn hoki hgne hb1 ho hgetD hg2 HCD HDP hgc HG2
        refine start_ (n := 11) (S := fun W => W.cell? ⟨g, n.toNat, none⟩ = some (.slice An old.length cn)) (ds := [10]) #[false, false, false, false, false, false, false, false, false, false, false] (by kernel_rfl) rfl rfl hd (fun hHeld => ?_)
        clear hd
        generalize w1.drew = W1 at *
        have HMC := Aside0.mk (copyRows_walk A3 c3 rows W1 (Kd.C_below HR.out HBD.out) hc3 (HSR.out HVD.out hn0 HE0.out (by have := HQ.out; omega)))
        refine pure_ (i := 0) (N := some 51) (v := ?_) (a' := ?_) #[true, false, false, false, false, false, false, false, false, false, false] rfl rfl (by kernel_rfl) (fun _ _ _ h => h) (Or.inl ⟨by rfl, ?_⟩) ?_ ?_
        rotate_left
        · intro w'; go_simp; with_reducible rfl
        rotate_left
        · simp only [Act.put, List.setIfInBounds_toArray, List.set_cons_zero, List.set_cons_succ, i64_w, i32_w]; rfl
        refine pure_ (i := 1) (N := some 52) (v := ?_) (a' := ?_) #[true, true, false, false, false, false, false, false, false, false, false] rfl rfl (by kernel_rfl) (fun _ _ _ h => h) (Or.inl ⟨by rfl, ?_⟩) ?_ ?_
        rotate_left
        · intro w'; go_simp; with_reducible rfl
        rotate_left
        · simp only [Act.put, List.setIfInBounds_toArray, List.set_cons_zero, List.set_cons_succ, i64_w, i32_w]; rfl
        refine pure_ (i := 2) (N := some 53) (v := ?_) (a' := ?_) #[true, true, true, false, false, false, false, false, false, false, false] rfl rfl (by kernel_rfl) (fun _ _ _ h => h) (Or.inl ⟨by rfl, ?_⟩) ?_ ?_
        rotate_left
        · intro w'; go_simp; with_reducible rfl
        rotate_left
        · simp only [Act.put, List.setIfInBounds_toArray, List.set_cons_zero, List.set_cons_succ, i64_w, i32_w]; rfl
        refine pure_ (i := 3) (N := some 54) (v := ?_) (a' := ?_) #[true, true, true, true, false, false, false, false, false, false, false] rfl rfl (by kernel_rfl) (fun _ _ _ h => h) (Or.inl ⟨by rfl, ?_⟩) ?_ ?_
        rotate_left
        · intro w'; go_simp; with_reducible rfl
        rotate_left
        · simp only [Act.put, List.setIfInBounds_toArray, List.set_cons_zero, List.set_cons_succ, i64_w, i32_w]; rfl
        refine pure_ (i := 4) (N := some 55) (v := ?_) (a' := ?_) #[true, true, true, true, true, false, false, false, false, false, false] rfl rfl (by kernel_rfl) (fun _ _ _ h => h) (Or.inl ⟨by rfl, ?_⟩) ?_ ?_
        rotate_left
        · intro w'; go_simp; with_reducible rfl
        rotate_left
        · simp only [Act.put, List.setIfInBounds_toArray, List.set_cons_zero, List.set_cons_succ, i64_w, i32_w]; rfl
        refine take_ (i := 5) (N := some 56) (v := ?_) (a' := ?_) #[true, true, true, true, true, true, false, false, false, false, false] rfl rfl (by kernel_rfl) (fun _ _ _ h => h) (Or.inl ⟨by rfl, ?_⟩) hHeld ?_ ?_
        rotate_left
        · rintro w' s0; go_simp; with_reducible rfl
        rotate_left
        · simp only [Act.put, List.setIfInBounds_toArray, List.set_cons_zero, List.set_cons_succ, i64_w, i32_w]; rfl
        refine pure_ (i := 6) (N := some 57) (v := ?_) (a' := ?_) #[true, true, true, true, true, true, true, false, false, false, false] rfl rfl (by kernel_rfl) (fun _ _ _ h => h) (Or.inl ⟨by rfl, ?_⟩) ?_ ?_
        rotate_left
        · intro w'; go_simp; with_reducible rfl
        rotate_left
        · simp only [Act.put, List.setIfInBounds_toArray, List.set_cons_zero, List.set_cons_succ, i64_w, i32_w]; rfl
        refine one_ (i := 7) (N := some 58) #[true, true, true, true, true, true, true, true, false, false, false] rfl rfl (by kernel_rfl) (by decide) (fun K hK => ?_)
        refine goes_ Tryz.func70 (by kernel_rfl) rfl #[.slice A3 rows.length c3, .func (.func 71) #[] #[]] (by rfl) rfl rfl (by (try simp only [List.map_toArray, List.map_cons, List.map_nil]); first | done | rfl) ?_
        refine HMC.out.mono ?_
        rintro e W2 ⟨vm, rfl, hm, hb2⟩
        obtain ⟨Am, cm, em⟩ := Kd.S_slice hm
        subst em
        refine ⟨_, rfl, ?_⟩
        have hc2 := (hb2.cell (World.block_lt_of_cell? W1 _ hHeld)).trans hHeld
        refine hK.out _ _ hc2 (fun hHeld2 => ?_)
        clear hK K
        refine norm_ (a' := ?_) ?_ ?_
        rotate_left
        · show Act.put _ (some 58) _ = _; simp only [Act.put, List.setIfInBounds_toArray, List.set_cons_zero, List.set_cons_succ, i64_w, i32_w]; rfl
        obtain ⟨Am', cm', em, _, hrd⟩ := OwnRow.reads (Kd.R_bound (Kd.S_R hm)).2
        injection em with em1 em2 em3
        subst em1
        have hrd2 : ReadsRow ((Kd.slice 87 k64).M W2 wr.heap.size (fun k => W1.heap.size ≤ k)) (Kd.slice 87 k64).sz W2 Am rows.length rows := hrd.imp_ (Below.refl _ _) (fun _ _ hp => (Kd.slice 87 k64).M_lower HWR1.out.size ((Kd.slice 87 k64).M_mono (fun k hk => hk.1.2.1) hp))
        have HRD2 := Aside0.mk hrd2
        have HRN2 := Aside0.mk (Kd.R_mono (Kd.R_below HRN.out hb2) (fun k hk => Or.inl hk) : (Kd.slice 87 k64).R 89 W2 wr.heap.size (fun k => oki k ∨ W1.heap.size ≤ k) (.slice An old.length cn) old)
        have HB2 := Aside0.mk hb2
        have hl24 : (old.length + rows.length) * 24 ≤ 140737488355328 := by have := HQ.out; omega
        clear hrd hrd2 hm hb2
        refine one_ (i := 8) (N := some 59) #[true, true, true, true, true, true, true, true, true, false, false] rfl rfl (by kernel_rfl) (by decide) (fun K hK => ?_)
        refine Kd.R_append_rows_step (Kd.slice 87 k64) (w0 := wr) wr.heap.size (by rfl) (.tmp 56) (.tmp 58) 41 89 (.slice none 0 0) 24 rfl Tryz.underlying41 info89 rfl (by decide) (by omega) (.slice An old.length cn) old rows Am rows.length cm (fun k => oki k ∨ W1.heap.size ≤ k) (fun k => W1.heap.size ≤ k) rfl rfl HRN2.out HRD2.out (fun _ _ h => h) ?hokp ?hfresh (below_step HWR1.out HB2.out) (Nat.le_trans HWR1.out.size HB2.out.size) hl24 ?_
        case hokp => exact fun k hk => ⟨Or.inr hk, fun he => by have := Kd.R_lt HRN.out k he.symm; omega⟩
        case hfresh => exact fun k hk => Or.inr (Nat.le_trans HB2.out.size hk)
        intro v1 W3 hv1 hb3 hg3 _
        obtain ⟨A5, c5, e5⟩ := Kd.R_slice hv1
        subst e5
        have hgc3 : W3.heap[g]? = some (.cells gcells 41 (0, 0)) := (hg3.block g (Nat.lt_of_lt_of_le HGN.out HB2.out.size) HGNE.out).trans ((HB2.out.block g HGN.out).trans HGC.out)
        have hc3 : W3.cell? ⟨g, n.toNat, none⟩ = some (.slice An old.length cn) := (blk_cell hgc3 n.toNat).trans ((blk_cell HGC.out n.toNat).symm.trans hHeld)
        have hfit : n.toNat + 1 ≤ gcells.size := by
          have := (blk_cell hgc3 n.toNat).symm.trans hc3
          have := (Array.getElem?_eq_some_iff.1 this).1
          omega
        refine hK.out _ _ hc3 (fun hHeld3 => ?_)
        clear hK K
        refine norm_ (a' := ?_) ?_ ?_
        rotate_left
        · show Act.put _ (some 59) _ = _; simp only [Act.put, List.setIfInBounds_toArray, List.set_cons_zero, List.set_cons_succ, i64_w, i32_w]; rfl
        refine pure_ (i := 9) (N := some 60) (v := ?_) (a' := ?_) #[true, true, true, true, true, true, true, true, true, true, false] rfl rfl (by kernel_rfl) (fun _ _ _ h => h) (Or.inl ⟨by rfl, ?_⟩) ?_ ?_
        rotate_left
        · intro w'; go_simp; with_reducible rfl
        rotate_left
        · simp only [Act.put, List.setIfInBounds_toArray, List.set_cons_zero, List.set_cons_succ, i64_w, i32_w]; rfl
        refine last_ (i := 10) (N := none) #[true, true, true, true, true, true, true, true, true, true, true] rfl rfl (by kernel_rfl) (by decide) (fun K hK => ?_)
        refine step_store_run (by rfl) 41 (.tmp 60) (.tmp 59) rfl rfl rfl rfl (run_store_run 41 (.slice A5 (old ++ rows).length c5) [.slice A5 (old ++ rows).length c5] hgc3 rfl (by kernel_rfl) (by simpa using hfit) (by simp [Value.oneCell'])) ?_
        refine hK.out _ _ ?_
        clear hK K
        refine done_ (by kernel_rfl) ?_
        have hHW3 := Kd.H_grown (Kd.H_below HH0.out HB2.out) hg3 (fun k hk => Or.inl (HRN.out.1 k hk))
        have hS4 := (Kd.S_seg0 hHW3 hn0 hnd (seg := [.slice A5 (old ++ rows).length c5]) (j := 0) (Nat.le_refl _) (x' := old ++ rows) (okp := fun k => oki k ∨ W1.heap.size ≤ k) (Kd.M_row hv1) (fun k hk => hk.elim Or.inl (fun h => Or.inr ⟨trivial, h⟩))).1
        have hoff : n.toNat * (Kd.slice 89 (Kd.slice 87 k64)).sz + 0 = n.toNat := by simp [Kd.slice]
        rw [hoff] at hS4
        have HW4 : Aside0 (Below w.heap.size w (W3.setCells g n.toNat [.slice A5 (old ++ rows).length c5])) := ⟨Go.below_setCells HGW.out _ _ _ (below_step HW.out hb3)⟩
        generalize (W3.setCells g n.toNat [.slice A5 (old ++ rows).length c5]) = W4 at *
        have HS4 := Aside0.mk hS4; have HO4 := Aside0.mk (Kd.S_reads' hS4)
        have HSET : Aside0 (rd_L13 (d.set n.toNat (old ++ rows)) n = old ++ rows) := ⟨by
          unfold rd_L13
          rw [List.getD_eq_getElem?_getD, List.getElem?_set_self (by omega)]; rfl⟩
        clear hS4 hoff hHW3 hHeld3 hc3 hfit hgc3 hg3 hb3 hv1 hl24 HRN2 HRD2 hHeld2 hHeld hc2 HMC HH0 HRN HGC HWR1 HB1 HB2
        have hwrows : ∀ row ∈ old ++ rows, ∀ x ∈ row, wfV x := by
          intro row hr
          rcases List.mem_append.1 hr with hr | hr
          · have hl : n.toNat < d.length := by omega
            have : old ∈ d := by rw [← HOLD.out]; unfold rd_L13; rw [List.getD_eq_getElem?_getD, List.getElem?_eq_getElem hl]; exact List.getElem_mem hl
            exact HWD.out _ this row hr
          · exact HWR.out row hr
        generalize hnw : old ++ rows = nw at *
        have HNW := Aside0.mk hnw
        have HNWF := Aside0.mk hwrows
        clear hnw
        obtain ⟨a, ha, hp⟩ := Option.bind_eq_some_iff.mp HP.out
        obtain ⟨g_, A6, c6, hg_, hx6, hc6, hC6⟩ := at_L13 HO4.out.2.2 n hn0 (by rw [List.length_set]; omega)
        cases hg_
        rw [HSET.out] at hx6 hc6 hC6
        have hx6' : W4.cell? ⟨g, n.toNat, none⟩ = some (.slice A6 nw.length c6) := by rwa [add_plain] at hx6
        have HKW : Aside0 (∀ W, Below W4.heap.size W4 W → Calls Tryz.prog 72 #[.agg #[.string t.f0, .slice A1_ t.f1.length c1_, .slice A2 t.f2.length c2, .slice A3_ t.f3.length c3_, .slice A4 t.f4.length c4], .slice A6 nw.length c6] W fun e w' => e = .returned (.bool a) ∧ Below W.heap.size W w') := ⟨fun W hW => keysHold_walk t.f0 A1_ c1_ _ A2 c2 t.f2 A3_ c3_ _ A4 c4 _ A6 c6 (nw) a W (Kd.C_below H2.out (below_step HW4.out hW)) HG2.out (Kd.C_below hC6 hW) hc6 hwrows ha⟩
        have KB : Aside0 (∀ W, Below W4.heap.size W4 W → W.cell? ⟨g, n.toNat, none⟩ = some (.slice A6 nw.length c6) ∧ (W.cell? (at_.add (n.toNat * 5)) = some (.string t.f0) ∧ W.cell? ⟨(at_.add (n.toNat * 5)).block, (at_.add (n.toNat * 5)).off + 1, none⟩ = some (.slice A1_ t.f1.length c1_) ∧ W.cell? ⟨(at_.add (n.toNat * 5)).block, (at_.add (n.toNat * 5)).off + 2, none⟩ = some (.slice A2 t.f2.length c2) ∧ W.cell? ⟨(at_.add (n.toNat * 5)).block, (at_.add (n.toNat * 5)).off + 3, none⟩ = some (.slice A3_ t.f3.length c3_) ∧ W.cell? ⟨(at_.add (n.toNat * 5)).block, (at_.add (n.toNat * 5)).off + 4, none⟩ = some (.slice A4 t.f4.length c4)) ∧ Below W4.heap.size W4 W) := ⟨fun W hW => ⟨(hW.cell (World.block_lt_of_cell? W4 _ hx6')).trans hx6', HY.out W (below_step HW4.out hW), hW⟩⟩
        have HP2 := Aside0.mk hp
        clear HP hp ha hwrows hx6 hx6' hC6 hc6
        go_wp2
        have hd := KB.out _ (below_drew1 (Below.refl _ _))
        refine start_ (n := 11) (S := fun W => W.cell? ⟨g, n.toNat, none⟩ = some (.slice A6 nw.length c6) ∧ (W.cell? (at_.add (n.toNat * 5)) = some (.string t.f0) ∧ W.cell? ⟨(at_.add (n.toNat * 5)).block, (at_.add (n.toNat * 5)).off + 1, none⟩ = some (.slice A1_ t.f1.length c1_) ∧ W.cell? ⟨(at_.add (n.toNat * 5)).block, (at_.add (n.toNat * 5)).off + 2, none⟩ = some (.slice A2 t.f2.length c2) ∧ W.cell? ⟨(at_.add (n.toNat * 5)).block, (at_.add (n.toNat * 5)).off + 3, none⟩ = some (.slice A3_ t.f3.length c3_) ∧ W.cell? ⟨(at_.add (n.toNat * 5)).block, (at_.add (n.toNat * 5)).off + 4, none⟩ = some (.slice A4 t.f4.length c4)) ∧ Below W4.heap.size W4 W) (ds := []) #[false, false, false, false, false, false, false, false, false, false, false] (by kernel_rfl) rfl rfl hd (fun hHeld => ?_)
        clear hd
        refine pure_ (i := 0) (N := some 62) (v := ?_) (a' := ?_) #[true, false, false, false, false, false, false, false, false, false, false] rfl rfl (by kernel_rfl) (fun _ _ _ h => h) (Or.inl ⟨by rfl, ?_⟩) ?_ ?_
        rotate_left
        · intro w'; go_simp; with_reducible rfl
        rotate_left
        · simp only [Act.put, List.setIfInBounds_toArray, List.set_cons_zero, List.set_cons_succ, i64_w, i32_w]; rfl
        refine pure_ (i := 1) (N := some 63) (v := ?_) (a' := ?_) #[true, true, false, false, false, false, false, false, false, false, false] rfl rfl (by kernel_rfl) (fun _ _ _ h => h) (Or.inl ⟨by rfl, ?_⟩) ?_ ?_
        rotate_left
        · intro w'; go_simp; with_reducible rfl
        rotate_left
        · simp only [Act.put, List.setIfInBounds_toArray, List.set_cons_zero, List.set_cons_succ, i64_w, i32_w]; rfl
        refine pure_ (i := 2) (N := some 64) (v := ?_) (a' := ?_) #[true, true, true, false, false, false, false, false, false, false, false] rfl rfl (by kernel_rfl) (fun _ _ _ h => h) (Or.inl ⟨by rfl, ?_⟩) ?_ ?_
        rotate_left
        · intro w'; go_simp; with_reducible rfl
        rotate_left
        · simp only [Act.put, List.setIfInBounds_toArray, List.set_cons_zero, List.set_cons_succ, i64_w, i32_w]; rfl
        refine take_ (i := 3) (N := some 65) (v := ?_) (a' := ?_) #[true, true, true, true, false, false, false, false, false, false, false] rfl rfl (by kernel_rfl) (fun _ _ _ h => h) (Or.inl ⟨by rfl, ?_⟩) hHeld ?_ ?_
        rotate_left
        · rintro w' ⟨_, ⟨s0, s1, s2, s3, s4⟩, _⟩; go_simp; with_reducible rfl
        rotate_left
        · simp only [Act.put, List.setIfInBounds_toArray, List.set_cons_zero, List.set_cons_succ, i64_w, i32_w]; rfl
        refine pure_ (i := 4) (N := some 66) (v := ?_) (a' := ?_) #[true, true, true, true, true, false, false, false, false, false, false] rfl rfl (by kernel_rfl) (fun _ _ _ h => h) (Or.inl ⟨by rfl, ?_⟩) ?_ ?_
        rotate_left
        · intro w'; go_simp; with_reducible rfl
        rotate_left
        · simp only [Act.put, List.setIfInBounds_toArray, List.set_cons_zero, List.set_cons_succ, i64_w, i32_w]; rfl
        refine pure_ (i := 5) (N := some 67) (v := ?_) (a' := ?_) #[true, true, true, true, true, true, false, false, false, false, false] rfl rfl (by kernel_rfl) (fun _ _ _ h => h) (Or.inl ⟨by rfl, ?_⟩) ?_ ?_
        rotate_left
        · intro w'; go_simp; with_reducible rfl
        rotate_left
        · simp only [Act.put, List.setIfInBounds_toArray, List.set_cons_zero, List.set_cons_succ, i64_w, i32_w]; rfl
        refine pure_ (i := 6) (N := some 68) (v := ?_) (a' := ?_) #[true, true, true, true, true, true, true, false, false, false, false] rfl rfl (by kernel_rfl) (fun _ _ _ h => h) (Or.inl ⟨by rfl, ?_⟩) ?_ ?_
        rotate_left
        · intro w'; go_simp; with_reducible rfl
        rotate_left
        · simp only [Act.put, List.setIfInBounds_toArray, List.set_cons_zero, List.set_cons_succ, i64_w, i32_w]; rfl
        refine take_ (i := 7) (N := some 69) (v := ?_) (a' := ?_) #[true, true, true, true, true, true, true, true, false, false, false] rfl rfl (by kernel_rfl) (fun _ _ _ h => h) (Or.inl ⟨by rfl, ?_⟩) hHeld ?_ ?_
        rotate_left
        · rintro w' ⟨s0, _, _⟩; go_simp; with_reducible rfl
        rotate_left
        · simp only [Act.put, List.setIfInBounds_toArray, List.set_cons_zero, List.set_cons_succ, i64_w, i32_w]; rfl
        refine one_ (i := 8) (N := some 70) #[true, true, true, true, true, true, true, true, true, false, false] rfl rfl (by kernel_rfl) (by decide) (fun K hK => ?_)
        refine goes_ Tryz.func72 (by kernel_rfl) rfl #[.agg #[.string t.f0, .slice A1_ t.f1.length c1_, .slice A2 t.f2.length c2, .slice A3_ t.f3.length c3_, .slice A4 t.f4.length c4], .slice A6 nw.length c6] (by rfl) rfl rfl (by (try simp only [List.map_toArray, List.map_cons, List.map_nil]); first | done | rfl) ?_
        refine (HKW.out _ hHeld.2.2).mono ?_
        rintro e W5 ⟨rfl, hb5⟩
        refine ⟨_, rfl, ?_⟩
        have hb6 := below_step hHeld.2.2 hb5
        refine hK.out _ _ (KB.out _ hb6) (fun hHeld2 => ?_)
        clear hK K
        refine norm_ (a' := ?_) ?_ ?_
        rotate_left
        · show Act.put _ (some 70) _ = _; simp only [Act.put, List.setIfInBounds_toArray, List.set_cons_zero, List.set_cons_succ, i64_w, i32_w]; rfl
        refine pure_ (i := 9) (N := some 71) (v := ?_) (a' := ?_) #[true, true, true, true, true, true, true, true, true, true, false] rfl rfl (by kernel_rfl) (fun _ _ _ h => h) (Or.inl ⟨by rfl, ?_⟩) ?_ ?_
        rotate_left
        · intro w'; go_simp; with_reducible rfl
        rotate_left
        · simp only [Act.put, List.setIfInBounds_toArray, List.set_cons_zero, List.set_cons_succ, i64_w, i32_w]; rfl
        refine pure_ (i := 10) (N := some 61) (v := ?_) (a' := ?_) #[true, true, true, true, true, true, true, true, true, true, true] rfl rfl (by kernel_rfl) (fun _ _ _ h => h) (Or.inl ⟨by rfl, ?_⟩) ?_ ?_
        rotate_left
        · intro w'; go_simp; with_reducible rfl
        rotate_left
        · simp only [Act.put, List.setIfInBounds_toArray, List.set_cons_zero, List.set_cons_succ, i64_w, i32_w]; rfl
        refine done_ (by kernel_rfl) ?_
        have HB6 := Aside0.mk hb6
        clear hb6 hb5 hHeld hHeld2 KB HKW
        cases a with
        | false =>
          have hp := HP2.out
          rw [if_neg (by decide)] at hp
          cases hp
          go_wp2
          go_ret2
          exact ⟨_, rfl, Kd.S_nil _ _ _ _ _, below_step HW4.out HB6.out⟩
        | true =>
          have hp := HP2.out
          rw [if_pos rfl] at hp
          obtain ⟨b, hb, hp⟩ := Option.bind_eq_some_iff.mp hp
          have hol : (d.set n.toNat nw).length = d.length := List.length_set
          have hwf : ∀ rows ∈ d.set n.toNat nw, ∀ row ∈ rows, ∀ x ∈ row, wfV x := by
            intro rs hr
            rcases List.mem_or_eq_of_mem_set hr with h1 | h1
            · exact HWD.out rs h1
            · rw [h1]; exact HNWF.out
          have hRF : Calls Tryz.prog 73 #[.slice (some at_) s.length c0, .slice (some ⟨g, 0, none⟩) (d.set n.toNat nw).length cap, .int .i64 n] W5 fun e w' => e = .returned (.bool b) ∧ Below W5.heap.size W5 w' := refsHold_walk (some at_) c0 s (some ⟨g, 0, none⟩) cap (d.set n.toNat nw) n b W5 (Kd.C_below HS.out (below_step HW4.out HB6.out)) hc0 (Kd.C_below (hol ▸ HO4.out.2.2) HB6.out) (hol ▸ HO4.out.2.1) hwf hn0 hns (by rw [hol]; exact hnd) (by rw [HT.out]; exact hb)
          rw [hol] at hRF
          have HRF := Aside0.mk hRF
          have HP3 := Aside0.mk hp
          have HOL2 := Aside0.mk hol
          clear hRF hp hb hwf hol HP2
          cases b with
          | false =>
            have hp := HP3.out
            rw [if_neg (by decide)] at hp
            cases hp
            go_wp2_with (go_at_call 73; refine HRF.out.mono ?_; rintro e w6 ⟨rfl, hb6⟩)
            go_ret2
            exact ⟨_, rfl, Kd.S_nil _ _ _ _ _, below_step HW4.out (below_step HB6.out hb6)⟩
          | true =>
            have hp := HP3.out
            rw [if_pos rfl] at hp
            cases hp
            clear HP3
            go_wp2_with (go_at_call 73; refine HRF.out.mono ?_; rintro e w6 ⟨rfl, hb6⟩)
            go_ret2
            exact ⟨_, rfl, Kd.S_below (Kd.S_lower HS4.out HW.out.size) (below_step HB6.out hb6), below_step HW4.out (below_step HB6.out hb6)⟩
theorem insert_walk (k : Nat) (A0 : Option Addr) (c0 : Nat) (s : List S49) (A1 : Option Addr) (c1 : Nat) (d : Data) (nm : ByteArray) (A3 : Option Addr) (c3 : Nat) (rows : Rows) (r1 : Data) (r2 : Int) (w : World)
    (hS : Kd.C k49 w A0 s.length s) (hc0 : s.length ≤ c0) (hD : Kd.C (Kd.slice 89 (Kd.slice 87 k64)) w A1 d.length d) (hc1 : d.length ≤ c1) (hR : Kd.C (Kd.slice 87 k64) w A3 rows.length rows) (hc3 : rows.length ≤ c3)
    (hwd : wfData d) (hwr : wfRows rows) (hsd : dataP k s d = some true → smallData d) (hrl : rows.length ≤ 6000000000000) (hsr : dataP k s d = some true → 0 ≤ findP nm 0 s → errsP (rd_T49 s (findP nm 0 s)) rows = 0 → rows.length ≤ 1000 → smallRows rows) (hL : LaidL w) (h : insertP k s d nm rows = some (r1, r2)) :
    Calls Tryz.prog 22 #[.slice A0 s.length c0, .slice A1 d.length c1, .string nm, .slice A3 rows.length c3] w fun e w' => ∃ (A : Option Addr) (c : Nat), e = .returned (.tuple #[.slice A r1.length c, .int .i64 r2]) ∧ r1.length ≤ c ∧ Kd.C (Kd.slice 89 (Kd.slice 87 k64)) w' A r1.length r1 ∧ Below w.heap.size w w' := by
  refine (insertS_walk k A0 c0 s A1 c1 d nm A3 c3 rows r1 r2 w hS hc0 hD hc1 hR hc3 hwd hwr hsd hrl hsr hL h).mono ?_
  rintro e w' ⟨v0, rfl, hv, hb⟩
  obtain ⟨A, c, rfl, hl, hC⟩ := Kd.S_reads hv
  exact ⟨A, c, rfl, hl, hC, hb⟩
end Go.Proofs.YthgfdnffnbclpaaGreatDoor.PAll
namespace Go.Proofs.YthgfdnffnbclpaaGreatDoor.PAll
open Go.RowKit Go.Proofs.YthgfdnffnbclpaaGreatDoorW.PrintWords Go.Proofs.YthgfdnffnbclpaaGreatDoorW.PrintLast Go.Proofs.YthgfdnffnbclpaaGreatDoorW.PrintMore

def smallT (t : S49) : Prop := t.f1.length ≤ 2000000 ∧ smallKeys t.f2 ∧ (t.f3.length ≤ 2000000 ∧ ∀ r ∈ t.f3, r.f0.length ≤ 2000000) ∧ t.f4.length ≤ 2000000
def smallSch (s : List S49) : Prop := s.length ≤ 2000000 ∧ ∀ t ∈ s, smallT t
/-- A reference, a table when table g is gone. -/
def shR (g : Int) (r : S75) : S75 := if g < r.f1 then ⟨r.f0, r.f1 - 1, r.f2⟩ else r
def shT (g : Int) (t : S49) : S49 := ⟨t.f0, t.f1, t.f2, t.f3.map (shR g), t.f4⟩
def useT (g : Int) (t : S49) : Bool := t.f3.any fun r => r.f1 == g
def dropAt (s : List S49) (d : Data) (n : Nat) : List S49 × Data × Int :=
  if s.any (useT n) = true then ([], [], 73) else ((s.map (shT n)).eraseIdx n, d.eraseIdx n, 0)
def dropP (k : Nat) (s : List S49) (d : Data) (nm : ByteArray) : Option (List S49 × Data × Int) :=
  (dataP k s d).bind fun v => if v = true then (if findP nm 0 s < 0 then some ([], [], 71) else some (dropAt s d (findP nm 0 s).toNat)) else some ([], [], 1)

/-- Table m half done: its first i references are. -/
def shP (g : Int) (i : Nat) (t : S49) : S49 := ⟨t.f0, t.f1, t.f2, t.f3.mapIdx fun j r => if j < i then shR g r else r, t.f4⟩
def curS (g : Int) (s : List S49) (m i : Nat) : List S49 := s.mapIdx fun j t => if j < m then shT g t else if j = m then shP g i t else t
def setR (t : S49) (i : Nat) (r : S75) : S49 := ⟨t.f0, t.f1, t.f2, t.f3.set i r, t.f4⟩
theorem shP_zero (g : Int) (t : S49) : shP g 0 t = t := by
  cases t
  simp only [shP, S49.mk.injEq, true_and, and_true]
  apply List.ext_getElem
  · simp
  · intro j h1 h2; simp
theorem shP_all (g : Int) (t : S49) (i : Nat) (h : t.f3.length ≤ i) : shP g i t = shT g t := by
  cases t
  simp only [shP, shT, S49.mk.injEq, true_and, and_true]
  apply List.ext_getElem
  · simp
  · intro j h1 h2
    simp only [List.length_map] at h2
    simp only [List.getElem_mapIdx, List.getElem_map]
    rw [if_pos (by simp at h; omega)]
theorem curS_at (g : Int) (s : List S49) (m i : Nat) (h : m < s.length) : (curS g s m i)[m]? = some (shP g i s[m]) := by
  rw [curS, List.getElem?_mapIdx, List.getElem?_eq_getElem h]
  simp
theorem curS_zero (g : Int) (s : List S49) : curS g s 0 0 = s := by
  apply List.ext_getElem
  · simp [curS]
  · intro j h1 h2
    simp only [curS, List.getElem_mapIdx]
    rw [if_neg (by omega)]
    split
    · exact shP_zero _ _
    · rfl
theorem curS_all (g : Int) (s : List S49) (m i : Nat) (h : s.length ≤ m) : curS g s m i = s.map (shT g) := by
  apply List.ext_getElem
  · simp [curS]
  · intro j h1 h2
    simp only [curS, List.getElem_mapIdx, List.getElem_map]
    simp only [List.length_map] at h2
    rw [if_pos (by omega)]
theorem curS_next (g : Int) (s : List S49) (m i : Nat) (h : m < s.length) (hi : s[m].f3.length ≤ i) : curS g s m i = curS g s (m + 1) 0 := by
  apply List.ext_getElem
  · simp [curS]
  · intro j h1 h2
    simp only [curS, List.getElem_mapIdx]
    by_cases a : j < m
    · rw [if_pos a, if_pos (by omega)]
    · rw [if_neg a]
      by_cases b : j = m
      · subst b
        rw [if_pos rfl, if_pos (by omega), shP_all _ _ _ hi]
      · rw [if_neg b, if_neg (by omega)]
        split
        · exact (shP_zero _ _).symm
        · rfl
theorem shP_at (g : Int) (i : Nat) (t : S49) (h : i < t.f3.length) : (shP g i t).f3[i]? = some t.f3[i] := by
  simp only [shP]
  rw [List.getElem?_mapIdx, List.getElem?_eq_getElem h]
  simp
theorem shP_same (g : Int) (i : Nat) (t : S49) (h : i < t.f3.length) (hs : shR g t.f3[i] = t.f3[i]) : shP g (i + 1) t = shP g i t := by
  simp only [shP, S49.mk.injEq, true_and, and_true]
  apply List.ext_getElem
  · simp
  · intro j h1 h2
    simp only [List.getElem_mapIdx]
    by_cases a : j < i
    · rw [if_pos a, if_pos (by omega)]
    · rw [if_neg a]
      split
      · have : j = i := by omega
        subst this; exact hs
      · rfl
theorem shP_step (g : Int) (i : Nat) (t : S49) (h : i < t.f3.length) : setR (shP g i t) i (shR g t.f3[i]) = shP g (i + 1) t := by
  simp only [setR, shP, S49.mk.injEq, true_and, and_true]
  apply List.ext_getElem
  · simp
  · intro j h1 h2
    simp only [List.getElem_mapIdx, List.getElem_set]
    by_cases a : i = j
    · subst a
      rw [if_pos rfl, if_pos (by omega)]
    · rw [if_neg a]
      by_cases b : j < i
      · rw [if_pos b, if_pos (by omega)]
      · rw [if_neg b, if_neg (by omega)]
theorem curS_same (g : Int) (s : List S49) (m i : Nat) (h : m < s.length) (hi : i < s[m].f3.length) (hs : shR g s[m].f3[i] = s[m].f3[i]) : curS g s m (i + 1) = curS g s m i := by
  apply List.ext_getElem
  · simp [curS]
  · intro j h1 h2
    simp only [curS, List.getElem_mapIdx]
    by_cases a : j < m
    · rw [if_pos a, if_pos a]
    · rw [if_neg a, if_neg a]
      by_cases b : j = m
      · subst b
        rw [if_pos rfl, if_pos rfl, shP_same _ _ _ hi hs]
      · rw [if_neg b, if_neg b]
theorem curS_step (g : Int) (s : List S49) (m i : Nat) (h : m < s.length) (hi : i < s[m].f3.length) : (curS g s m i).set m (setR (shP g i s[m]) i (shR g s[m].f3[i])) = curS g s m (i + 1) := by
  rw [shP_step _ _ _ hi]
  apply List.ext_getElem
  · simp [curS]
  · intro j h1 h2
    simp only [curS, List.getElem_mapIdx, List.getElem_set]
    by_cases a : m = j
    · subst a
      rw [if_pos rfl, if_neg (by omega), if_pos rfl]
    · rw [if_neg a]
      split
      · rfl
      · rw [if_neg (by omega), if_neg (by omega)]
theorem use_at {g : Int} {s : List S49} {m i : Nat} (h : m < s.length) (hi : i < s[m].f3.length) (e : s[m].f3[i].f1 = g) : s.any (useT g) = true := by
  rw [List.any_eq_true]
  exact ⟨s[m], List.getElem_mem h, by unfold useT; rw [List.any_eq_true]; exact ⟨_, List.getElem_mem hi, by rw [e]; exact beq_iff_eq.mpr rfl⟩⟩
end Go.Proofs.YthgfdnffnbclpaaGreatDoor.PAll
