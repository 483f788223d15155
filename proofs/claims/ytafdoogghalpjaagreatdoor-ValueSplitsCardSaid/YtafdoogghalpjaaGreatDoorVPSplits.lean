/- ValueSplits without Go and memory: texts that match patterns match them one behind the other, also with a % and anything between. -/
import Derived.Test.YtafdoogghalpjaaGreatDoorVPMatch
import Derived.Test.YtafdoogghalpjaaGreatDoorVLSplits
set_option linter.unusedVariables false
namespace Go.Proofs.YtafdoogghalpjaaGreatDoor.PAll
open Go.RowKit Go.Proofs.YtafdoogghalpjaaGreatDoorW.PrintWords Go.Proofs.YtafdoogghalpjaaGreatDoorW.PrintLast Go.Proofs.YtafdoogghalpjaaGreatDoorW.PrintMore

theorem awake_fromS {k : Nat} (h : 40 ≤ k) : jointerlaw01_awake.f k = some true := by
  obtain ⟨d, rfl⟩ : ∃ d, k = 40 + d := ⟨k - 40, by omega⟩
  clear h
  induction d with
  | zero => exact jointerlaw01_awake.is_true
  | succ d ih => exact jointerlaw01_awake.mono _ _ ih
theorem fuel_le (x y S : Nat) (hx : x ≤ S) (hy : y ≤ S) : 3 * (x * (x + y + 2) + x + y) + 4 ≤ 3 * (S * (S + S + 2) + S + S) + 4 := by
  have := Nat.mul_le_mul hx (show x + y + 2 ≤ S + S + 2 by omega)
  omega
theorem match_at (x0 x1 : ByteArray) (S k : Nat) (hS : S ≤ 1125899906842624) (h0 : x0.size ≤ S) (h1 : x1.size ≤ S) (hk : 3 * (S * (S + S + 2) + S + S) + 4 ≤ k) :
    ∃ b, value_Matches.f k x0 x1 = some b ∧ (b = true ↔ M x0.data.toList x1.data.toList) :=
  matches_is x0 x1 (by omega) (by omega) k (Nat.le_trans (fuel_le _ _ S h0 h1) hk)
theorem app_list (x y : ByteArray) : (x ++ y).data.toList = x.data.toList ++ y.data.toList := by simp
theorem pct_any (t : List UInt8) : M t [37] := by
  rw [M_pct]
  exact ⟨t.length, Nat.le_refl _, by simp [M]⟩
theorem j0_true (k : Nat) (a0 a1 a2 a3 a4 : ByteArray) (hk : 41 ≤ k) : jointerlaw01_ValueSplits.j0 k a0 a1 a2 a3 a4 true = some true := by
  obtain ⟨k, rfl⟩ : ∃ m, k = m + 1 := ⟨k - 1, by omega⟩
  simp only [jointerlaw01_ValueSplits.j0]
  rw [if_pos trivial, awake_fromS (by omega)]
  rfl
theorem j0_false (S k : Nat) (a0 a1 a2 a3 a4 : ByteArray) (hk : 3 * (S * (S + S + 2) + S + S) + 45 ≤ k) (hS : S ≤ 1125899906842624) (hs : a0.size + a1.size + a2.size + a3.size + a4.size + 1 ≤ S)
    (m0 : M a0.data.toList a2.data.toList) (m1 : M a1.data.toList a3.data.toList) : jointerlaw01_ValueSplits.j0 k a0 a1 a2 a3 a4 false = some true := by
  obtain ⟨k, rfl⟩ : ∃ m, k = m + 1 := ⟨k - 1, by omega⟩
  have z1 : (⟨#[37]⟩ : ByteArray).size = 1 := rfl
  obtain ⟨b3, e3, i3⟩ := match_at (a0 ++ a1) (a2 ++ a3) S k hS (by rw [ByteArray.size_append]; omega) (by rw [ByteArray.size_append]; omega) (by omega)
  obtain ⟨b4, e4, i4⟩ := match_at ((a0 ++ a4) ++ a1) ((a2 ++ (⟨#[37]⟩ : ByteArray)) ++ a3) S k hS (by rw [ByteArray.size_append, ByteArray.size_append]; omega) (by rw [ByteArray.size_append, ByteArray.size_append, z1]; omega) (by omega)
  have t3 : b3 = true := by
    rw [i3, app_list, app_list, M_append]
    exact ⟨_, _, rfl, m0, m1⟩
  have t4 : b4 = true := by
    rw [i4, app_list, app_list, app_list, app_list, M_append]
    refine ⟨_, _, rfl, ?_, m1⟩
    rw [M_append]
    exact ⟨_, _, rfl, m0, pct_any _⟩
  subst t3 t4
  simp only [jointerlaw01_ValueSplits.j0]
  rw [if_neg (by simp), if_pos (by omega), if_pos (by omega), e3]
  simp only [Option.bind_some]
  rw [if_pos trivial, if_pos (by omega), if_pos (by rw [ByteArray.size_append]; omega), if_pos (by omega), if_pos (by rw [ByteArray.size_append, z1]; omega), e4]
  simp only [Option.bind_some]
  rw [if_pos trivial, awake_fromS (by omega)]
  rfl
theorem ValueSplits : jointerlaw01_ValueSplits.Pure := by
  intro a0 a1 a2 a3 a4 w0 w1 w2 w3 w4
  obtain ⟨S, hS⟩ : ∃ S, S = a0.size + a1.size + a2.size + a3.size + a4.size + 1 := ⟨_, rfl⟩
  obtain ⟨K, hK⟩ : ∃ K, K = 3 * (S * (S + S + 2) + S + S) + 45 := ⟨_, rfl⟩
  refine ⟨K, ?_⟩
  obtain ⟨b1, e1, i1⟩ := match_at a0 a2 S K (by omega) (by omega) (by omega) (by omega)
  obtain ⟨b2, e2, i2⟩ := match_at a1 a3 S K (by omega) (by omega) (by omega) (by omega)
  unfold jointerlaw01_ValueSplits.f
  rw [e1, e2]
  simp only [Option.bind_some]
  cases b1 with
  | false => rw [if_neg (by simp)]; exact j0_true _ _ _ _ _ _ (by omega)
  | true =>
    rw [if_pos rfl]
    cases b2 with
    | false => exact j0_true _ _ _ _ _ _ (by omega)
    | true => exact j0_false S K a0 a1 a2 a3 a4 (by omega) (by omega) (by omega) (i1.1 rfl) (i2.1 rfl)
end Go.Proofs.YtafdoogghalpjaaGreatDoor.PAll
