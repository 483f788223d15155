/- Reading values, without Go and memory: the program's Read and the reference's, piece by piece; and the Prints. -/
import Derived.Test.YtafdoogghalpjaaGreatDoorVPRead
set_option linter.unusedVariables false
namespace Go.Proofs.YtafdoogghalpjaaGreatDoor.PAll
open Go.RowKit Go.Proofs.YtafdoogghalpjaaGreatDoorW.PrintWords Go.Proofs.YtafdoogghalpjaaGreatDoorW.PrintLast Go.Proofs.YtafdoogghalpjaaGreatDoorW.PrintMore

/-- A text between two bytes '. -/
def Quo (L : List UInt8) : Prop := ∃ m, L = 39 :: (m ++ [39])
theorem wrap_nat (i : Nat) (h : i ≤ 140737488351234) : wrap64 ((i : Int) + 1) = ((i + 1 : Nat) : Int) := by unfold wrap64; omega
theorem unq_l (x : ByteArray) (hx : x.size ≤ 140737488351232) (m0 : List UInt8) (hL : x.data.toList = 39 :: (m0 ++ [39])) (N : Nat) : ∀ (k i : Nat) (o : List UInt8), i ≤ m0.length → m0.length - i ≤ N → o.length ≤ i → N < k →
    jointerref01_unquoted.l0 k x ⟨o.toArray⟩ ((i + 1 : Nat) : Int) = some (match unq (m0.drop i) with | some y => ((⟨(o ++ y).toArray⟩ : ByteArray), true) | none => ((⟨#[]⟩ : ByteArray), false)) := by
  have hl : x.data.toList.length = x.size := by simp
  have hlen : x.size = m0.length + 2 := by rw [← hl, hL]; simp
  have hw : wrap64 ((x.size : Int) - 1) = ((m0.length + 1 : Nat) : Int) := by rw [hlen]; unfold wrap64; omega
  have hat : ∀ j (h : j < m0.length) (h' : j + 1 < x.data.toList.length), x.data.toList[j + 1] = m0[j] := by
    intro j h h'
    have : x.data.toList[j + 1]? = some m0[j] := by
      rw [hL, List.getElem?_cons_succ, List.getElem?_append_left h, List.getElem?_eq_getElem h]
    exact Option.some.inj ((List.getElem?_eq_getElem h').symm.trans this)
  induction N using Nat.strongRecOn with
  | ind N ih =>
    intro k i o hi hN ho hk
    obtain ⟨k, rfl⟩ : ∃ m, k = m + 1 := ⟨k - 1, by omega⟩
    have z1 : i + 1 ≤ 140737488351233 := by omega
    have z2 : i + 1 + 1 ≤ 140737488351234 := by omega
    rw [jointerref01_unquoted.l0, hw]
    clear hw
    by_cases hlt : i < m0.length
    · have h1 : i + 1 < x.data.toList.length := by omega
      rw [if_pos (by omega), if_pos (by omega), if_pos (by omega), bt_list x (i + 1) h1, hat i hlt h1, wrap_nat (i + 1) (Nat.le_trans z1 (by decide)), List.drop_eq_getElem_cons hlt]
      by_cases hc : m0[i] = 39
      · rw [if_pos (by rw [hc]; rfl), hc]
        by_cases hlt2 : i + 1 < m0.length
        · have h2 : i + 1 + 1 < x.data.toList.length := by omega
          rw [if_neg (by omega), if_pos (by omega), if_pos (by omega), bt_list x (i + 1 + 1) h2, hat (i + 1) hlt2 h2, wrap_nat (i + 1 + 1) z2, List.drop_eq_getElem_cons hlt2]
          by_cases hd : m0[i + 1] = 39
          · rw [if_pos (by rw [hd]; rfl), if_pos (by omega), if_pos (by omega), if_pos (by rw [ba_size, ex_size x (i + 1 + 1) (by omega)]; omega), ba_push _ _ _ h2, hat (i + 1) hlt2 h2, hd, unq_two,
              ih (N - 2) (by omega) k (i + 1 + 1) _ (by omega) (by omega) (by simp; omega) (by omega)]
            cases unq (m0.drop (i + 1 + 1)) with
            | none => rfl
            | some y => simp
          · rw [if_neg (fun e => hd (UInt8.toNat_inj.mp (by show m0[i + 1].toNat = 39; omega))), unq_bad _ _ hd]
        · rw [if_pos (by omega), List.drop_eq_nil_of_le (by omega), unq_last]
      · rw [if_neg (fun e => hc (UInt8.toNat_inj.mp (by show m0[i].toNat = 39; omega))), if_pos (by omega), if_pos (by omega), if_pos (by rw [ba_size, ex_size x (i + 1) (by omega)]; omega), ba_push _ _ _ h1, hat i hlt h1, unq_cons _ _ hc,
          ih (N - 1) (by omega) k (i + 1) _ (by omega) (by omega) (by simp; omega) (by omega)]
        cases unq (m0.drop (i + 1)) with
        | none => rfl
        | some y => simp
    · rw [if_neg (by omega), List.drop_eq_nil_of_le (by omega)]
      simp [unq]
theorem wrap_pre (n p : Nat) (h : n = p + 1) (hn : n ≤ 140737488351232) : wrap64 ((n : Int) - 1) = (p : Int) := by subst h; unfold wrap64; omega
theorem unquoted_yes (x : ByteArray) (hx : x.size ≤ 140737488351232) (m : List UInt8) (hL : x.data.toList = 39 :: (m ++ [39])) (k : Nat) (hk : x.size + 2 ≤ k) :
    jointerref01_unquoted.f k x = some (match unq m with | some y => ((⟨y.toArray⟩ : ByteArray), true) | none => ((⟨#[]⟩ : ByteArray), false)) := by
  have hl : x.data.toList.length = x.size := by simp
  have hlen : x.size = m.length + 2 := by rw [← hl, hL]; simp
  obtain ⟨k, rfl⟩ : ∃ m, k = m + 1 := ⟨k - 1, by omega⟩
  have h0 : x.data.toList[0]'(by omega) = 39 := by
    have : x.data.toList[0]? = some 39 := by rw [hL]; rfl
    exact Option.some.inj ((List.getElem?_eq_getElem (by omega)).symm.trans this)
  have h1 : x.data.toList[m.length + 1]'(by omega) = 39 := by
    have : x.data.toList[m.length + 1]? = some 39 := by rw [hL, List.getElem?_cons_succ, List.getElem?_append_right (by omega)]; simp
    exact Option.some.inj ((List.getElem?_eq_getElem (by omega)).symm.trans this)
  have hb0 := bt_list x 0 (by omega)
  rw [show ((0 : Nat) : Int) = 0 from rfl] at hb0
  unfold jointerref01_unquoted.f
  rw [if_neg (by omega), if_pos (by omega), hb0, h0, if_pos (by rfl), wrap_pre x.size (m.length + 1) hlen hx, if_pos (by omega), if_pos (by omega), bt_list x (m.length + 1) (by omega), h1]
  have e := unq_l x hx m hL m.length k 0 [] (by omega) (by omega) (by simp) (by omega)
  rw [show (((39 : UInt8).toNat : Int) != 39) = false by rfl, jointerref01_unquoted.j0, if_neg (by simp)]
  simp only [List.drop_zero, List.nil_append] at e
  exact e
theorem unquoted_no (x : ByteArray) (hx : x.size ≤ 140737488351232) (hL : ¬ Quo x.data.toList) (k : Nat) (hk : 2 ≤ k) : jointerref01_unquoted.f k x = some ((⟨#[]⟩ : ByteArray), false) := by
  have hl : x.data.toList.length = x.size := by simp
  obtain ⟨k, rfl⟩ : ∃ m, k = m + 1 := ⟨k - 1, by omega⟩
  have hj : jointerref01_unquoted.j0 (k + 1) x true = some ((⟨#[]⟩ : ByteArray), false) := by rw [jointerref01_unquoted.j0, if_pos rfl]
  unfold jointerref01_unquoted.f
  by_cases h2 : (x.size : Int) < 2
  · rw [if_pos h2, hj]
  · have hb0 := bt_list x 0 (by omega)
    rw [show ((0 : Nat) : Int) = 0 from rfl] at hb0
    rw [if_neg h2, if_pos (by omega), hb0]
    by_cases h0 : x.data.toList[0]'(by omega) = 39
    · have hz : x.size = (x.size - 1) + 1 := by omega
      rw [if_pos (by rw [h0]; rfl), wrap_pre x.size (x.size - 1) hz hx, if_pos (by omega), if_pos (by omega), bt_list x (x.size - 1) (by omega)]
      have hlast : x.data.toList[x.size - 1]'(by omega) ≠ 39 := by
        intro e
        refine hL ⟨x.data.toList.tail.dropLast, ?_⟩
        obtain ⟨c, r, hcr⟩ : ∃ c r, x.data.toList = c :: r := by
          cases hx' : x.data.toList with
          | nil => rw [hx'] at hl; simp at hl; omega
          | cons c r => exact ⟨c, r, rfl⟩
        have hr : r ≠ [] := fun e' => by rw [hcr, e'] at hl; simp at hl; omega
        have hc0 : c = 39 := by
          have : x.data.toList[0]? = some c := by rw [hcr]; rfl
          exact (Option.some.inj ((List.getElem?_eq_getElem (by omega)).symm.trans this)).symm.trans h0
        have hrl : r.length = x.size - 1 := by rw [hcr] at hl; simp at hl; omega
        have hr2 : r.getLast hr = 39 := by
          rw [← e, List.getLast_eq_getElem]
          have : x.data.toList[x.size - 1]? = r[r.length - 1]? := by rw [hcr, show x.size - 1 = (r.length - 1) + 1 by have := List.length_pos_iff.2 hr; omega, List.getElem?_cons_succ]
          rw [List.getElem?_eq_getElem (by omega), List.getElem?_eq_getElem (by have := List.length_pos_iff.2 hr; omega)] at this
          exact (Option.some.inj this).symm
        rw [hcr, hc0, List.tail_cons, ← hr2, List.dropLast_concat_getLast hr]
      have hb : ((((x.data.toList[x.size - 1]'(by omega)).toNat : Int)) != 39) = true := by
        rw [bne_iff_ne]
        exact fun e => hlast (UInt8.toNat_inj.mp (by show (x.data.toList[x.size - 1]'(by omega)).toNat = 39; omega))
      rw [hb, hj]
    · rw [if_neg (fun e => h0 (UInt8.toNat_inj.mp (by show (x.data.toList[0]'(by omega)).toNat = 39; omega))), hj]
end Go.Proofs.YtafdoogghalpjaaGreatDoor.PAll
