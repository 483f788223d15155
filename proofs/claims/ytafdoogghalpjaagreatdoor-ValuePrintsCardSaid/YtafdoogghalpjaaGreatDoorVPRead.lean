/- Reading and printing values, without Go and memory: the program's Read and the reference's come to the same; so do the Prints; each undoes the other. -/
import Derived.Test.YtafdoogghalpjaaGreatDoorVPNum
import Derived.Test.YtafdoogghalpjaaGreatDoorVFe
import Derived.Test.YtafdoogghalpjaaGreatDoorVFf
import Derived.Test.YtafdoogghalpjaaGreatDoorVRead
set_option linter.unusedVariables false
namespace Go.Proofs.YtafdoogghalpjaaGreatDoor.PAll
open Go.RowKit Go.Proofs.YtafdoogghalpjaaGreatDoorW.PrintWords Go.Proofs.YtafdoogghalpjaaGreatDoorW.PrintLast Go.Proofs.YtafdoogghalpjaaGreatDoorW.PrintMore

theorem dw_nil {α : Type} (f : α → Bool) : ∀ l : List α, l.dropWhile f = [] ↔ ∀ x ∈ l, f x = true
  | [] => by simp
  | x :: l => by
    have ih := dw_nil f l
    rw [List.dropWhile_cons]
    split
    · rename_i h; rw [ih]; simp [h]
    · rename_i h; simp; intro h2; exact absurd h2 h
theorem tw_ok {α : Type} (f : α → Bool) : ∀ (l : List α) (x : α), x ∈ l.takeWhile f → f x = true
  | [], x, h => by simp at h
  | y :: l, x, h => by
    rw [List.takeWhile_cons] at h
    split at h
    · rcases List.mem_cons.mp h with rfl | h
      · assumption
      · exact tw_ok f l x h
    · simp at h
theorem dw_mem {α : Type} (f : α → Bool) : ∀ (l : List α) (x : α), x ∈ l.dropWhile f → x ∈ l
  | [], x, h => by simp at h
  | y :: l, x, h => by
    rw [List.dropWhile_cons] at h
    split at h
    · exact List.mem_cons_of_mem _ (dw_mem f l x h)
    · exact h
theorem trim_set (l cs : List UInt8) : Lib.trimS l cs = [] ↔ ∀ c ∈ l, cs.contains c = true := by
  unfold Lib.trimS Lib.trimLeftS
  rw [dw_nil]
  have hsplit := List.takeWhile_append_dropWhile (p := fun x => cs.contains x) (l := l.reverse)
  constructor
  · intro h c hc
    have hc' : c ∈ l.reverse := by simpa using hc
    rw [← hsplit] at hc'
    rcases List.mem_append.mp hc' with h1 | h1
    · exact tw_ok _ _ _ h1
    · exact h c (by unfold Lib.trimRightS; simpa using h1)
  · intro h x hx
    unfold Lib.trimRightS at hx
    have hx' := dw_mem _ _ _ (List.mem_reverse.mp hx)
    exact h x (List.mem_reverse.mp hx')
theorem digit_set (c : UInt8) : digitsSet.data.toList.contains c = true ↔ dg c = true := by
  rw [dg_iff, List.contains_iff_mem]
  constructor
  · intro h
    have h' : c = 48 ∨ c = 49 ∨ c = 50 ∨ c = 51 ∨ c = 52 ∨ c = 53 ∨ c = 54 ∨ c = 55 ∨ c = 56 ∨ c = 57 := by simpa [digitsSet] using h
    rcases h' with h | h | h | h | h | h | h | h | h | h <;> subst h <;> decide
  · intro h
    have h' : c.toNat = 48 ∨ c.toNat = 49 ∨ c.toNat = 50 ∨ c.toNat = 51 ∨ c.toNat = 52 ∨ c.toNat = 53 ∨ c.toNat = 54 ∨ c.toNat = 55 ∨ c.toNat = 56 ∨ c.toNat = 57 := by omega
    have e : c = UInt8.ofNat c.toNat := UInt8.ofNat_toNat.symm
    rcases h' with h | h | h | h | h | h | h | h | h | h <;> rw [e, h] <;> decide
theorem ex_tail (x : ByteArray) : (x.extract 1 x.size).data.toList = x.data.toList.tail := by
  have hl : x.data.toList.length = x.size := by simp
  simp only [ByteArray.data_extract, Array.toList_extract, List.extract_eq_take_drop]
  rw [List.take_of_length_le (by simp), List.drop_one]
/-! ### The reference: which texts are numbers, and what they are -/
theorem isn_l (y : ByteArray) (hy : y.size ≤ 9223372036854775807) : ∀ (m k i : Nat), i + m = y.size → m < k → jointerref01_isNumber.l0 k y (i : Int) = some ((y.data.toList.drop i).all dg)
  | m, 0, i, _, hk => by omega
  | 0, k + 1, i, hi, hk => by
    have hl : y.data.toList.length = y.size := by simp
    unfold jointerref01_isNumber.l0
    rw [if_neg (by omega), List.drop_eq_nil_of_le (by omega)]; rfl
  | m + 1, k + 1, i, hi, hk => by
    have hl : y.data.toList.length = y.size := by simp
    have hlt : i < y.data.toList.length := by omega
    unfold jointerref01_isNumber.l0
    rw [if_pos (by omega), if_pos (by omega), bt_list y i hlt, wrap_step (n := y.size) (by omega) hy, List.drop_eq_getElem_cons hlt, List.all_cons]
    by_cases h1 : y.data.toList[i].toNat < 48
    · rw [if_pos (by omega)]
      have : dg y.data.toList[i] = false := by
        cases h : dg y.data.toList[i] with
        | false => rfl
        | true => have := (dg_iff _).1 h; omega
      rw [this]; rfl
    · rw [if_neg (by omega)]
      by_cases h2 : y.data.toList[i].toNat > 57
      · rw [if_pos (by omega)]
        have : dg y.data.toList[i] = false := by
          cases h : dg y.data.toList[i] with
          | false => rfl
          | true => have := (dg_iff _).1 h; omega
        rw [this]; rfl
      · rw [if_neg (by omega), isn_l y hy m k (i + 1) (by omega) (by omega), (dg_iff _).2 ⟨by omega, by omega⟩]
        rfl
theorem isn_j1 (x y : ByteArray) (hy : y.size ≤ 9223372036854775807) (k : Nat) (hk : y.size + 3 ≤ k) :
    ∃ b, jointerref01_isNumber.j1 k x y = some b ∧ (b = true ↔ y.data.toList ≠ [] ∧ (∀ c ∈ y.data.toList, dg c = true) ∧ ¬ (y.data.toList.head? = some 48 ∧ x.data.toList ≠ [48])) := by
  have hl : y.data.toList.length = y.size := by simp
  obtain ⟨k, rfl⟩ : ∃ m, k = m + 2 := ⟨k - 2, by omega⟩
  rw [jointerref01_isNumber.j1, Lib.toList_data, Lib.toList_data]
  have h2 : ∀ b, jointerref01_isNumber.j2 (k + 1) y b = if b = true then some false else some (y.data.toList.all dg) := by
    intro b
    rw [jointerref01_isNumber.j2]
    have e := isn_l y hy y.size k 0 (by omega) (by omega)
    rw [show ((0 : Nat) : Int) = 0 from rfl, List.drop_zero] at e
    rw [e]
  by_cases h0 : y.data.toList = []
  · rw [if_pos h0, h2, if_pos rfl]
    exact ⟨false, rfl, by simp [h0]⟩
  · have hpos : 0 < y.data.toList.length := List.length_pos_iff.2 h0
    have hb := bt_list y 0 hpos
    rw [show ((0 : Nat) : Int) = 0 from rfl] at hb
    have hh : y.data.toList.head? = some y.data.toList[0] := by rw [List.head?_eq_getElem?, List.getElem?_eq_getElem hpos]
    rw [if_neg h0, if_pos (by omega), hb, h2, h2]
    by_cases h48 : y.data.toList[0] = 48
    · rw [if_pos (by rw [h48]; rfl)]
      by_cases hx : x.data.toList = [48]
      · refine ⟨y.data.toList.all dg, by simp [hx], ?_⟩
        rw [List.all_eq_true]
        exact ⟨fun h => ⟨h0, h, fun hh => hh.2 hx⟩, fun h => h.2.1⟩
      · refine ⟨false, by simp [hx], ?_⟩
        exact ⟨fun h => (by cases h), fun h => absurd ⟨by rw [hh, h48], hx⟩ h.2.2⟩
    · rw [if_neg (fun e => h48 (UInt8.toNat_inj.mp (by show y.data.toList[0].toNat = 48; omega)))]
      refine ⟨y.data.toList.all dg, by simp, ?_⟩
      rw [List.all_eq_true]
      exact ⟨fun h => ⟨h0, h, fun h' => by rw [hh] at h'; exact h48 (Option.some.inj h'.1)⟩, fun h => h.2.1⟩
theorem isNumber_is (x : ByteArray) (hx : x.size ≤ 9223372036854775807) (k : Nat) (hk : x.size + 4 ≤ k) :
    ∃ b, jointerref01_isNumber.f k x = some b ∧ (b = true ↔ IsNum x.data.toList) := by
  have hl : x.data.toList.length = x.size := by simp
  obtain ⟨k, rfl⟩ : ∃ m, k = m + 1 := ⟨k - 1, by omega⟩
  unfold jointerref01_isNumber.f
  rw [Lib.toList_data]
  by_cases h0 : x.data.toList = []
  · rw [if_pos h0]
    rw [jointerref01_isNumber.j0, if_neg (by simp)]
    obtain ⟨b, e, i⟩ := isn_j1 x x hx k (by omega)
    have hd : dgs x.data.toList = x.data.toList := by rw [h0]; rfl
    exact ⟨b, e, by rw [i, IsNum, hd]⟩
  · have hpos : 0 < x.data.toList.length := List.length_pos_iff.2 h0
    have hb := bt_list x 0 hpos
    rw [show ((0 : Nat) : Int) = 0 from rfl] at hb
    have hh : x.data.toList.head? = some x.data.toList[0] := by rw [List.head?_eq_getElem?, List.getElem?_eq_getElem hpos]
    rw [if_neg h0, if_pos (by omega), hb, jointerref01_isNumber.j0]
    by_cases h45 : x.data.toList[0] = 45
    · rw [if_pos (by rw [h45]; rfl), if_pos (by omega)]
      obtain ⟨b, e, i⟩ := isn_j1 x (x.extract 1 x.size) (by rw [ByteArray.size_extract]; omega) k (by rw [ByteArray.size_extract]; omega)
      have hd : dgs x.data.toList = (x.extract 1 x.size).data.toList := by rw [ex_tail]; unfold dgs; rw [hh, h45, if_pos rfl]
      exact ⟨b, e, by rw [i, IsNum, hd]⟩
    · have hne : ¬ ((x.data.toList[0].toNat : Int) = 45) := fun e => h45 (UInt8.toNat_inj.mp (by show x.data.toList[0].toNat = 45; omega))
      rw [if_neg (by simpa using hne)]
      obtain ⟨b, e, i⟩ := isn_j1 x x hx k (by omega)
      have hd : dgs x.data.toList = x.data.toList := by unfold dgs; rw [hh, if_neg (fun e => h45 (Option.some.inj e))]
      exact ⟨b, e, by rw [i, IsNum, hd]⟩
theorem bad_more {s : Int} (hs : s = 1 ∨ s = -1) {n v : Nat} (h : n ≤ v) (hb : ¬ i64ok (s * (n : Int))) : ¬ i64ok (s * (v : Int)) := by
  rcases hs with rfl | rfl <;> (unfold i64ok at hb ⊢; omega)
theorem number_step (y : ByteArray) (s : Int) (hs : s = 1 ∨ s = -1) (i acc V : Nat) (hlt : i < y.data.toList.length) (hc : 48 ≤ (y.data.toList[i]).toNat ∧ (y.data.toList[i]).toNat ≤ 57) (hge : acc * 10 + (y.data.toList[i].toNat - 48) ≤ V)
    (ho : i64ok (s * (acc : Int))) (k : Nat) (G : Int → Option (Int × Int))
    (hG : i64ok (s * ((acc * 10 + (y.data.toList[i].toNat - 48) : Nat) : Int)) → G (s * ((acc * 10 + (y.data.toList[i].toNat - 48) : Nat) : Int)) = res (s * (V : Int))) :
    ((jointerref01_Mul.f (k + 2) (s * (acc : Int)) 10).bind fun b1 => (if b1.2 = 0 then (if 0 ≤ (i : Int) then ((jointerref01_Add.f b1.1 (wrap64 (s * (((bt y (i : Int)) - 48) % 256)))).bind fun b2 => (if b2.2 = 0 then G b2.1 else (some (0, b2.2)))) else (none)) else (some (0, b1.2)))) = res (s * (V : Int)) := by
  rw [rmul_is k ho (by unfold i64ok; omega), show s * (acc : Int) * 10 = s * ((acc * 10 : Nat) : Int) by rw [Int.mul_assoc]; simp]
  by_cases h1 : i64ok (s * ((acc * 10 : Nat) : Int))
  · have e1 : res (s * ((acc * 10 : Nat) : Int)) = some (s * ((acc * 10 : Nat) : Int), 0) := by unfold res; rw [if_pos h1]
    rw [e1]
    simp only [Option.bind_some]
    have ew : wrap64 (s * ((bt y (i : Int) - 48) % 256)) = s * ((y.data.toList[i].toNat - 48 : Nat) : Int) := by
      rw [bt_list y i hlt]
      generalize y.data.toList[i].toNat = d at hc
      rcases hs with rfl | rfl <;> (unfold wrap64; omega)
    have ed : i64ok (s * ((y.data.toList[i].toNat - 48 : Nat) : Int)) := by
      generalize y.data.toList[i].toNat = d at hc
      rcases hs with rfl | rfl <;> (unfold i64ok; omega)
    rw [if_pos trivial, if_pos (by omega), ew, radd_is h1 ed, ← Int.mul_add, ← Int.natCast_add]
    by_cases h2 : i64ok (s * ((acc * 10 + (y.data.toList[i].toNat - 48) : Nat) : Int))
    · have e2 : res (s * ((acc * 10 + (y.data.toList[i].toNat - 48) : Nat) : Int)) = some (s * ((acc * 10 + (y.data.toList[i].toNat - 48) : Nat) : Int), 0) := by unfold res; rw [if_pos h2]
      rw [e2]
      simp only [Option.bind_some]
      rw [if_pos trivial]
      exact hG h2
    · have e2 : res (s * ((acc * 10 + (y.data.toList[i].toNat - 48) : Nat) : Int)) = some (0, 4) := by unfold res; rw [if_neg h2]
      rw [e2]
      simp only [Option.bind_some]
      rw [if_neg (by decide)]
      unfold res
      rw [if_neg (bad_more hs hge h2)]
  · have e1 : res (s * ((acc * 10 : Nat) : Int)) = some (0, 4) := by unfold res; rw [if_neg h1]
    rw [e1]
    simp only [Option.bind_some]
    rw [if_neg (by decide)]
    unfold res
    rw [if_neg (bad_more hs (by omega) h1)]
theorem number_l (y : ByteArray) (s : Int) (hs : s = 1 ∨ s = -1) (hy : y.size ≤ 9223372036854775807) (m : Nat) : ∀ (k i acc : Nat), i + m = y.size → (∀ c ∈ y.data.toList.drop i, dg c = true) → i64ok (s * (acc : Int)) → m + 2 < k →
    jointerref01_number.l0 k s y (s * (acc : Int)) (i : Int) = res (s * (val acc (y.data.toList.drop i) : Int)) := by
  have hl : y.data.toList.length = y.size := by simp
  induction m with
  | zero =>
    intro k i acc hi hd ho hk
    obtain ⟨k, rfl⟩ : ∃ m, k = m + 1 := ⟨k - 1, by omega⟩
    rw [jointerref01_number.l0, if_neg (by omega), List.drop_eq_nil_of_le (by omega), val_nil]
    unfold res
    rw [if_pos ho]
  | succ m ih =>
    intro k i acc hi hd ho hk
    have hlt : i < y.data.toList.length := by omega
    obtain ⟨k, rfl⟩ : ∃ m, k = m + 3 := ⟨k - 3, by omega⟩
    rw [List.drop_eq_getElem_cons hlt] at hd
    have hc := (dg_iff _).1 (hd _ List.mem_cons_self)
    rw [List.drop_eq_getElem_cons hlt, val_cons, jointerref01_number.l0, if_pos (by omega)]
    refine number_step y s hs i acc _ hlt hc (val_ge _ _) ho k (fun n => jointerref01_number.l0 (k + 2) s y n (wrap64 ((i : Int) + 1))) fun h2 => ?_
    show jointerref01_number.l0 (k + 2) s y _ (wrap64 ((i : Int) + 1)) = _
    rw [wrap_step (n := y.size) (by omega) hy]
    exact ih (k + 2) (i + 1) _ (by omega) (fun c hc => hd c (List.mem_cons_of_mem _ hc)) h2 (by omega)
theorem number_is (x : ByteArray) (hx : x.size ≤ 9223372036854775807) (h : IsNum x.data.toList) (k : Nat) (hk : x.size + 4 ≤ k) : jointerref01_number.f k x = res (numV x.data.toList) := by
  have hl : x.data.toList.length = x.size := by simp
  obtain ⟨h1, h2, h3⟩ := h
  obtain ⟨k, rfl⟩ : ∃ m, k = m + 1 := ⟨k - 1, by omega⟩
  have h0 : x.data.toList ≠ [] := fun e => by rw [e] at h1; exact h1 rfl
  have hpos : 0 < x.data.toList.length := List.length_pos_iff.2 h0
  have hb := bt_list x 0 hpos
  rw [show ((0 : Nat) : Int) = 0 from rfl] at hb
  have hh : x.data.toList.head? = some x.data.toList[0] := by rw [List.head?_eq_getElem?, List.getElem?_eq_getElem hpos]
  unfold jointerref01_number.f
  rw [if_pos (by omega), hb]
  by_cases h45 : x.data.toList[0] = 45
  · rw [if_pos (by rw [h45]; rfl), if_pos (by omega)]
    have hd : dgs x.data.toList = (x.extract 1 x.size).data.toList := by rw [ex_tail]; unfold dgs; rw [hh, h45, if_pos rfl]
    have hs : sgn x.data.toList = -1 := by unfold sgn; rw [hh, h45, if_pos rfl]
    unfold jointerref01_number.j0 numV
    rw [hs, hd]
    rw [hd] at h2
    have := number_l (x.extract 1 x.size) (-1) (Or.inr rfl) (by rw [ByteArray.size_extract]; omega) (x.extract 1 x.size).size k 0 0 (by omega) (by rw [List.drop_zero]; exact h2) (by unfold i64ok; omega) (by rw [ByteArray.size_extract]; omega)
    rw [List.drop_zero] at this
    exact this
  · rw [if_neg (fun e => h45 (UInt8.toNat_inj.mp (by show x.data.toList[0].toNat = 45; omega)))]
    have hd : dgs x.data.toList = x.data.toList := by unfold dgs; rw [hh, if_neg (fun e => h45 (Option.some.inj e))]
    have hs : sgn x.data.toList = 1 := by unfold sgn; rw [hh, if_neg (fun e => h45 (Option.some.inj e))]
    unfold jointerref01_number.j0 numV
    rw [hs, hd]
    rw [hd] at h2
    have := number_l x 1 (Or.inl rfl) hx x.size k 0 0 (by omega) (by rw [List.drop_zero]; exact h2) (by unfold i64ok; omega) (by omega)
    rw [List.drop_zero] at this
    exact this
end Go.Proofs.YtafdoogghalpjaaGreatDoor.PAll
