/- lex.fits: whether the number of some digits is at most 2^63. -/
import Derived.Test.YtaibkpbiccibjaaGreatDoorLStub
import Derived.Lib.ParseIntBCases
set_option linter.unusedVariables false
namespace Go.Proofs.YtaibkpbiccibjaaGreatDoor.PAll
open Go.RowKit Go.Proofs.YtaibkpbiccibjaaGreatDoorW.PrintWords Go.Proofs.YtaibkpbiccibjaaGreatDoorW.PrintLast Go.Proofs.YtaibkpbiccibjaaGreatDoorW.PrintMore

def numF (acc : Nat) (l : List UInt8) : Nat := l.foldl Lx.digStep acc
theorem numF_cons (acc : Nat) (c : UInt8) (l : List UInt8) : numF acc (c :: l) = numF (acc * 10 + (c.toNat - 48)) l := by unfold numF; rw [List.foldl_cons, Lx.digStep]
theorem numF_step (acc d m : Nat) (h : acc * 10 + d ≤ m) : acc ≤ m := by omega
theorem numF_ge (l : List UInt8) : ∀ acc : Nat, acc ≤ numF acc l := by
  induction l with
  | nil => intro acc; exact Nat.le_refl _
  | cons c l ih => intro acc; rw [numF_cons]; exact numF_step _ _ _ (ih _)
theorem parse_num : ∀ (l : List UInt8) (acc : Nat), acc < 18446744073709551616 → (∀ b ∈ l, Lx.isDig b = true) → Lib.parseUint10 acc l = if numF acc l < 18446744073709551616 then .ok (numF acc l) else .range
  | [], acc, ha, _ => by
    rw [show numF acc [] = acc from rfl, if_pos ha]; rfl
  | c :: l, acc, ha, h => by
    have hc : 48 ≤ c.toNat ∧ c.toNat ≤ 57 := by
      have := h c (by simp)
      unfold Lx.isDig at this
      simpa using this
    have hge := numF_ge l (acc * 10 + (c.toNat - 48))
    rw [Lib.parseUint10, if_pos hc, numF_cons]
    split
    · rw [if_neg (by omega)]
    · split
      · rw [if_neg (by omega)]
      · exact parse_num l _ (by omega) (fun b hb => h b (by simp [hb]))
theorem parse_digits (l : List UInt8) (hne : l ≠ []) (h : ∀ b ∈ l, Lx.isDig b = true) : Lib.parseUintB 64 l = if Lx.numD l < 18446744073709551616 then .ok (Lx.numD l) else .range := by
  unfold Lib.parseUintB
  rw [if_neg hne, show (2 ^ 64 - 1 : Nat) = 18446744073709551615 from rfl, Lib.parseUintM_64, parse_num l 0 (by omega) h]
  rfl
theorem below_bytesWorld (w : World) (e : TypeId) (s : ByteArray) : Below w.heap.size w (Lib.bytesWorld w e s) := by
  refine ⟨rfl, ?_, rfl, by rw [Lib.bytesWorld_size]; omega, fun k hk => Lib.bytesWorld_at_old w e s k hk⟩
  rfl

set_option maxHeartbeats 4000000 in
set_option maxRecDepth 100000 in
theorem fits_calls (s : ByteArray) (w : World) (hL : LaidL w) (hne : s.data.toList ≠ []) (hd : ∀ b ∈ s.data.toList, Lx.isDig b = true) (hsz : s.size ≤ 4000) :
    Calls Tryz.prog 38 #[.string s] w fun e w' => e = .returned (.bool (decide (Lx.numD s.data.toList ≤ 9223372036854775808))) ∧ Below w.heap.size w w' := by
  have hp := parse_digits s.data.toList hne hd
  by_cases hlt : Lx.numD s.data.toList < 18446744073709551616
  · rw [if_pos hlt] at hp
    have HC : Aside0 (Calls Tryz.prog 56 #[.string s, .int .i64 10, .int .i64 64] w fun e w' => e = .returned (.tuple #[.int .u64 (Lx.numD s.data.toList : Nat), .nilIface]) ∧ Below w.heap.size w w') := by
      refine ⟨(Tryz.strconv_ParseUint_10_at64_ok s (by omega) _ hp w).mono ?_⟩
      rintro e w' ⟨rfl, rfl | rfl⟩
      · exact ⟨rfl, Below.refl _ _⟩
      · exact ⟨rfl, below_bytesWorld _ _ _⟩
    generalize hN : Lx.numD s.data.toList = N at *
    clear hp hN
    by_cases hN : N ≤ 9223372036854775808
    · have hNi : (N : Int) ≤ 9223372036854775808 := by omega
      have hb : decide (N ≤ 9223372036854775808) = true := decide_eq_true hN
      rw [hb]
      go_enter Tryz.func38, Tryz.ntmps38
      go_wp2_with (go_at_call 56; refine HC.out.mono ?_; rintro e w' ⟨rfl, hw⟩)
      go_ret
      exact ⟨by first | rfl | simp [hNi], hw⟩
    · have hNi : ¬ (N : Int) ≤ 9223372036854775808 := by omega
      have hb : decide (N ≤ 9223372036854775808) = false := decide_eq_false hN
      rw [hb]
      go_enter Tryz.func38, Tryz.ntmps38
      go_wp2_with (go_at_call 56; refine HC.out.mono ?_; rintro e w' ⟨rfl, hw⟩)
      go_ret
      exact ⟨by first | rfl | simp [hNi], hw⟩
  · rw [if_neg hlt] at hp
    obtain ⟨te, pe, hev⟩ := hL.range
    have HC : Aside0 (Calls Tryz.prog 56 #[.string s, .int .i64 10, .int .i64 64] w fun e w' => (∃ N, e = .returned (.tuple #[.int .u64 18446744073709551615, .iface 117 (.pointer (some ⟨N, 0, none⟩))])) ∧ Below w.heap.size w w') := by
      refine ⟨(Tryz.strconv_ParseUint_10_at64_range s (by omega) hp _ w hev (.inr ⟨te, pe, rfl⟩)).mono ?_⟩
      rintro e w' ⟨N, rfl, _, _, hb⟩
      exact ⟨⟨N, rfl⟩, hb⟩
    have hb : decide (Lx.numD s.data.toList ≤ 9223372036854775808) = false := decide_eq_false (by omega)
    rw [hb]
    clear hp
    go_enter Tryz.func38, Tryz.ntmps38
    go_wp2_with (go_at_call 56; refine HC.out.mono ?_; rintro e w' ⟨⟨N, rfl⟩, hw⟩)
    go_ret
    exact ⟨rfl, hw⟩
end Go.Proofs.YtaibkpbiccibjaaGreatDoor.PAll
