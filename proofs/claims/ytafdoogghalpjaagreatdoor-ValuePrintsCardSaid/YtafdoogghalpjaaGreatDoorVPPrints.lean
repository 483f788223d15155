/- ValueReads and ValuePrints without Go and memory: the Prints, and both laws. -/
import Derived.Test.YtafdoogghalpjaaGreatDoorVPRW
import Derived.Test.YtafdoogghalpjaaGreatDoorVLReads
import Derived.Test.YtafdoogghalpjaaGreatDoorVLPrints
import Derived.Lib.ItoaLen
set_option linter.unusedVariables false
namespace Go.Proofs.YtafdoogghalpjaaGreatDoor.PAll
open Go.RowKit Go.Proofs.YtafdoogghalpjaaGreatDoorW.PrintWords Go.Proofs.YtafdoogghalpjaaGreatDoorW.PrintLast Go.Proofs.YtafdoogghalpjaaGreatDoorW.PrintMore

theorem awake_fromR {k : Nat} (h : 40 ≤ k) : jointerlaw01_awake.f k = some true := by
  obtain ⟨d, rfl⟩ : ∃ d, k = 40 + d := ⟨k - 40, by omega⟩
  clear h
  induction d with
  | zero => exact jointerlaw01_awake.is_true
  | succ d ih => exact jointerlaw01_awake.mono _ _ ih
theorem nil_list : (⟨#[]⟩ : ByteArray).toList = ([] : List UInt8) := by rw [Lib.toList_data]
theorem vprint_null : value_Print.f 0 0 (⟨#[]⟩ : ByteArray) = some ((⟨#[78, 85, 76, 76]⟩ : ByteArray), 0) := by
  unfold value_Print.f value_Valid.f
  rw [if_pos rfl, nil_list]
  rfl
theorem vprint_num (v : Int) (hv : i64ok v) : value_Print.f 1 v (⟨#[]⟩ : ByteArray) = some ((⟨(Lib.itoa v).toArray⟩ : ByteArray), 0) := by
  unfold value_Print.f value_Valid.f strconv_FormatInt_45.f
  rw [if_neg (by decide), if_pos rfl, nil_list]
  simp only [Option.bind_some]
  rw [if_pos (by rfl), if_pos trivial, if_pos ⟨trivial, by unfold i64ok at hv; omega⟩]
  rfl
theorem vprint_true : value_Print.f 3 1 (⟨#[]⟩ : ByteArray) = some ((⟨#[84, 82, 85, 69]⟩ : ByteArray), 0) := by decide +kernel
theorem vprint_false : value_Print.f 3 0 (⟨#[]⟩ : ByteArray) = some ((⟨#[70, 65, 76, 83, 69]⟩ : ByteArray), 0) := by decide +kernel
theorem vprint_text (x : ByteArray) (hx : x.size ≤ 100) : value_Print.f 2 0 x = some ((⟨(39 :: (qt x.data.toList ++ [39])).toArray⟩ : ByteArray), 0) := by
  have hl : x.data.toList.length = x.size := by simp
  have hq := qt_len x.data.toList
  have hr : strings_ReplaceAll.f x (⟨#[39]⟩ : ByteArray) (⟨#[39, 39]⟩ : ByteArray) = some ⟨(qt x.data.toList).toArray⟩ := by
    unfold strings_ReplaceAll.f
    have hc : Lib.countB x (⟨#[39]⟩ : ByteArray) ≤ 100 := by
      have : Lib.countB x (⟨#[39]⟩ : ByteArray) = x.data.toList.count 39 := by
        unfold Lib.countB
        exact Lib.count_one 39 _
      rw [this]
      exact Nat.le_trans (List.count_le_length) (by omega)
    have h2 : (⟨#[39, 39]⟩ : ByteArray).size = 2 := rfl
    rw [if_pos ⟨by omega, by decide, by rw [h2]; omega⟩]
    rw [show (⟨#[39]⟩ : ByteArray).data.toList = [39] from rfl, show (⟨#[39, 39]⟩ : ByteArray).data.toList = [39, 39] from rfl, replaceAll_qt]
  unfold value_Print.f value_Valid.f
  rw [if_neg (by decide), if_neg (by decide), if_pos rfl, if_pos rfl]
  simp only [Option.bind_some]
  rw [if_pos (by simp; omega), if_neg (by decide), if_pos trivial, hr]
  simp only [Option.bind_some]
  have e1 : (⟨#[39]⟩ : ByteArray) ++ (⟨(qt x.data.toList).toArray⟩ : ByteArray) = ⟨(39 :: qt x.data.toList).toArray⟩ := by
    apply ByteArray.ext
    apply Array.toList_inj.1
    rw [ByteArray.data_append, Array.toList_append]
    rfl
  rw [if_pos (by rw [ba_size]; omega), e1, if_pos (by rw [ba_size]; simp; omega), ba_one]
  rfl
theorem ba_of (x : ByteArray) (l : List UInt8) (h : x.data.toList = l) : x = ⟨l.toArray⟩ := by
  apply ByteArray.ext
  apply Array.toList_inj.1
  rw [h]
/-- The two Reads come to the same, and what is read is printed as it stood. -/
theorem read_both (x : ByteArray) (hx : x.size ≤ 140737488351232) (k : Nat) (hk : x.size + 4 ≤ k) : ∃ r, jointerref01_Read.f k x = some r ∧ value_Read.f k x = some r ∧ (r.2.2.2 = 0 → value_Print.f r.1 r.2.1 r.2.2.1 = some (x, 0)) := by
  by_cases h1 : x.data.toList = [78, 85, 76, 76]
  · refine ⟨(0, 0, (⟨#[]⟩ : ByteArray), 0), ?_, ?_, fun _ => ?_⟩
    · unfold jointerref01_Read.f; rw [Lib.toList_data, if_pos h1]
    · unfold value_Read.f; rw [if_pos hx, Lib.toList_data, if_pos h1]
    · rw [ba_of x _ h1]; exact vprint_null
  by_cases h2 : x.data.toList = [70, 65, 76, 83, 69]
  · refine ⟨(3, 0, (⟨#[]⟩ : ByteArray), 0), ?_, ?_, fun _ => ?_⟩
    · unfold jointerref01_Read.f; rw [Lib.toList_data, if_neg h1, if_neg (by rw [h2]; decide), if_pos h2]; rfl
    · unfold value_Read.f; rw [if_pos hx, Lib.toList_data, if_neg h1, if_pos h2]
    · rw [ba_of x _ h2]; exact vprint_false
  by_cases h3 : x.data.toList = [84, 82, 85, 69]
  · refine ⟨(3, 1, (⟨#[]⟩ : ByteArray), 0), ?_, ?_, fun _ => ?_⟩
    · unfold jointerref01_Read.f; rw [Lib.toList_data, if_neg h1, if_pos h3]; rfl
    · unfold value_Read.f; rw [if_pos hx, Lib.toList_data, if_neg h1, if_neg h2, if_pos h3]
    · rw [ba_of x _ h3]; exact vprint_true
  by_cases hn : IsNum x.data.toList
  · refine ⟨_, rread_num x hx hn k hk, vread_num x hx hn k, fun h => ?_⟩
    unfold numR at h ⊢
    by_cases ho : i64ok (numV x.data.toList)
    · rw [if_pos ho]
      show value_Print.f 1 (numV x.data.toList) (⟨#[]⟩ : ByteArray) = _
      rw [vprint_num _ ho, itoa_num _ hn, ← ba_of x _ rfl]
    · rw [if_neg ho] at h; exact absurd h (by decide)
  by_cases hq : Quo x.data.toList
  · obtain ⟨m, hm⟩ := hq
    refine ⟨_, rread_text x hx m hm k hk, vread_text x hx m hm k (by omega), fun h => ?_⟩
    unfold txtR at h ⊢
    cases hu : unq m with
    | none => rw [hu] at h; exact absurd h (by decide)
    | some y =>
      rw [hu] at h
      simp only at h ⊢
      by_cases hy : (y.length : Int) > 100
      · rw [if_pos hy] at h; exact absurd h (by decide)
      · rw [if_neg hy]
        show value_Print.f 2 0 (⟨y.toArray⟩ : ByteArray) = _
        rw [vprint_text _ (by rw [ba_size]; omega), qt_of_unq m.length m y (Nat.le_refl _) hu, ← ba_of x _ hm]
  · exact ⟨_, rread_other x hx hn hq h1 h2 h3 k hk, vread_other x hx hn hq h1 h2 h3 k, fun h => absurd h (by decide)⟩
theorem ValueReads : jointerlaw01_ValueReads.Pure := by
  intro a0 w0
  refine ⟨a0.size + 60, ?_⟩
  obtain ⟨r, e1, e2, hp⟩ := read_both a0 w0 (a0.size + 60) (by omega)
  unfold jointerlaw01_ValueReads.f jointerref01_Same.f
  rw [e1, e2]
  simp only [Option.bind_some]
  rw [if_pos trivial, if_pos trivial, if_pos trivial]
  simp only [Option.bind_some, beq_self_eq_true, Bool.not_true]
  rw [jointerlaw01_ValueReads.j0, if_neg (by simp)]
  by_cases h0 : r.2.2.2 = 0
  · rw [if_pos h0, hp h0]
    simp only [Option.bind_some]
    rw [if_pos trivial, if_pos trivial, awake_fromR (by omega)]
    rfl
  · rw [if_neg h0, awake_fromR (by omega)]
    rfl
/-! ### Prints -/
theorem rprint_null : ∀ k, jointerref01_Print.f k 0 0 (⟨#[]⟩ : ByteArray) = some ((⟨#[78, 85, 76, 76]⟩ : ByteArray), 0) := by
  intro k
  unfold jointerref01_Print.f jointerref01_Valid.f
  rw [if_pos rfl, if_pos rfl, nil_list]
  rfl
theorem rprint_num (k : Nat) (v : Int) (hv : i64ok v) : jointerref01_Print.f k 1 v (⟨#[]⟩ : ByteArray) = some ((⟨(Lib.itoa v).toArray⟩ : ByteArray), 0) := by
  unfold jointerref01_Print.f jointerref01_Valid.f strconv_FormatInt_45.f
  rw [if_neg (by decide), if_pos rfl, nil_list]
  simp only [Option.bind_some]
  rw [if_pos (by rfl), if_pos trivial, if_pos ⟨trivial, by unfold i64ok at hv; omega⟩]
  rfl
theorem rprint_true (k : Nat) : jointerref01_Print.f k 3 1 (⟨#[]⟩ : ByteArray) = some ((⟨#[84, 82, 85, 69]⟩ : ByteArray), 0) := by
  unfold jointerref01_Print.f jointerref01_Valid.f
  rw [if_neg (by decide), if_neg (by decide), if_neg (by decide), if_pos rfl, if_neg (by decide), if_pos rfl, nil_list]
  rfl
theorem rprint_false (k : Nat) : jointerref01_Print.f k 3 0 (⟨#[]⟩ : ByteArray) = some ((⟨#[70, 65, 76, 83, 69]⟩ : ByteArray), 0) := by
  unfold jointerref01_Print.f jointerref01_Valid.f
  rw [if_neg (by decide), if_neg (by decide), if_neg (by decide), if_pos rfl, if_pos rfl, nil_list]
  rfl
theorem rprint_text (k : Nat) (x : ByteArray) (hx : x.size ≤ 100) (hk : x.size < k) : jointerref01_Print.f k 2 0 x = some ((⟨(39 :: (qt x.data.toList ++ [39])).toArray⟩ : ByteArray), 0) := by
  unfold jointerref01_Print.f jointerref01_Valid.f
  rw [if_neg (by decide), if_neg (by decide), if_pos rfl, if_pos rfl]
  simp only [Option.bind_some]
  rw [if_pos (by simp; omega), if_neg (by decide), if_pos trivial, quoted_is x (by omega) k hk]
  rfl
/-- Which values are valid. -/
def VOk (k n : Int) (s : ByteArray) : Prop := (k = 0 ∧ n = 0 ∧ s.data.toList = []) ∨ (k = 1 ∧ s.data.toList = []) ∨ (k = 2 ∧ n = 0 ∧ s.size ≤ 100) ∨ (k = 3 ∧ (n = 0 ∨ n = 1) ∧ s.data.toList = [])
theorem u64_small (n : Int) (hn : i64ok n) : IntKind.u64.wrap n ≤ 1 ↔ n = 0 ∨ n = 1 := by
  show n % 18446744073709551616 ≤ 1 ↔ _
  unfold i64ok at hn
  omega
theorem vvalid_no (k n : Int) (s : ByteArray) (hn : i64ok n) (h : ¬ VOk k n s) : value_Valid.f k n s = some false := by
  unfold VOk at h
  unfold value_Valid.f
  rw [Lib.toList_data]
  by_cases k0 : k = 0
  · rw [if_pos k0]
    by_cases n0 : n = 0
    · have hs : s.data.toList ≠ [] := fun e => h (Or.inl ⟨k0, n0, e⟩)
      rw [beq_eq_false_iff_ne.2 hs]; simp
    · simp [n0]
  rw [if_neg k0]
  by_cases k1 : k = 1
  · rw [if_pos k1]
    have hs : s.data.toList ≠ [] := fun e => h (Or.inr (Or.inl ⟨k1, e⟩))
    rw [beq_eq_false_iff_ne.2 hs]
  rw [if_neg k1]
  by_cases k2 : k = 2
  · rw [if_pos k2]
    by_cases n0 : n = 0
    · have hs : ¬ s.size ≤ 100 := fun e => h (Or.inr (Or.inr (Or.inl ⟨k2, n0, e⟩)))
      rw [if_pos n0, decide_eq_false (by omega)]
    · rw [if_neg n0]
  rw [if_neg k2]
  by_cases k3 : k = 3
  · rw [if_pos k3]
    by_cases hs : s.data.toList = []
    · rw [if_pos hs, decide_eq_false (fun e => h (Or.inr (Or.inr (Or.inr ⟨k3, (u64_small n hn).1 e, hs⟩))))]
    · rw [if_neg hs]
  rw [if_neg k3]
theorem rvalid_no (k n : Int) (s : ByteArray) (h : ¬ VOk k n s) : jointerref01_Valid.f k n s = some false := by
  unfold VOk at h
  unfold jointerref01_Valid.f
  rw [Lib.toList_data]
  by_cases k0 : k = 0
  · rw [if_pos k0]
    by_cases n0 : n = 0
    · have hs : s.data.toList ≠ [] := fun e => h (Or.inl ⟨k0, n0, e⟩)
      rw [if_pos n0, beq_eq_false_iff_ne.2 hs]
    · simp [n0]
  rw [if_neg k0]
  by_cases k1 : k = 1
  · rw [if_pos k1]
    have hs : s.data.toList ≠ [] := fun e => h (Or.inr (Or.inl ⟨k1, e⟩))
    rw [beq_eq_false_iff_ne.2 hs]
  rw [if_neg k1]
  by_cases k2 : k = 2
  · rw [if_pos k2]
    by_cases n0 : n = 0
    · have hs : ¬ s.size ≤ 100 := fun e => h (Or.inr (Or.inr (Or.inl ⟨k2, n0, e⟩)))
      rw [if_pos n0, decide_eq_false (by omega)]
    · rw [if_neg n0]
  rw [if_neg k2]
  by_cases k3 : k = 3
  · rw [if_pos k3]
    by_cases n0 : n = 0
    · have hs : s.data.toList ≠ [] := fun e => h (Or.inr (Or.inr (Or.inr ⟨k3, Or.inl n0, e⟩)))
      rw [if_pos n0, beq_eq_false_iff_ne.2 hs]
    · rw [if_neg n0]
      by_cases n1 : n = 1
      · have hs : s.data.toList ≠ [] := fun e => h (Or.inr (Or.inr (Or.inr ⟨k3, Or.inr n1, e⟩)))
        rw [if_pos n1, beq_eq_false_iff_ne.2 hs]
      · rw [if_neg n1]
  rw [if_neg k3]
theorem back_of (x : ByteArray) (hx : x.size ≤ 1000) (F : Nat) (hF : 1100 ≤ F) (k n : Int) (s : ByteArray) (h1 : jointerref01_Print.f F k n s = some (x, 0)) (h2 : value_Print.f k n s = some (x, 0)) (h3 : value_Read.f (F - 1) x = some (k, n, s, 0)) :
    jointerlaw01_ValuePrints.f F k n s = some true := by
  obtain ⟨F, rfl⟩ : ∃ m, F = m + 1 := ⟨F - 1, by omega⟩
  unfold jointerlaw01_ValuePrints.f
  rw [h1, h2]
  simp only [Option.bind_some]
  rw [if_pos trivial, jointerlaw01_ValuePrints.j0, if_neg (by simp), if_pos rfl, show F = F + 1 - 1 from rfl, h3]
  simp only [Option.bind_some]
  rw [if_pos trivial]
  unfold jointerref01_Same.f
  rw [if_pos rfl, if_pos rfl]
  simp only [Option.bind_some, beq_self_eq_true]
  rw [if_pos trivial, awake_fromR (by omega)]
  rfl
theorem ValuePrints (k n : Int) (s : ByteArray) (hn : i64ok n) : jointerlaw01_ValuePrints.f 2000 k n s = some true := by
  by_cases h : VOk k n s
  · rcases h with ⟨rfl, rfl, hs⟩ | ⟨rfl, hs⟩ | ⟨rfl, rfl, hs⟩ | ⟨rfl, hn', hs⟩
    · rw [ba_of s _ hs]
      refine back_of _ (by decide) 2000 (by decide) _ _ _ (rprint_null _) vprint_null ?_
      unfold value_Read.f
      rw [if_pos (by decide), Lib.toList_data, if_pos rfl]
    · rw [ba_of s _ hs]
      obtain ⟨i1, i2⟩ := num_itoa n
      have hlen := Lib.itoa_length_le n hn.1 hn.2
      refine back_of ⟨(Lib.itoa n).toArray⟩ (by rw [ba_size]; omega) 2000 (by decide) _ _ _ (rprint_num _ n hn) (vprint_num n hn) ?_
      rw [vread_num _ (by rw [ba_size]; omega) i1]
      unfold numR
      rw [i2, if_pos hn]
    · have hl : s.data.toList.length = s.size := by simp
      have hq := qt_len s.data.toList
      refine back_of _ (by rw [ba_size]; simp; omega) 2000 (by decide) _ _ _ (rprint_text _ s hs (by omega)) (vprint_text s hs) ?_
      rw [vread_text _ (by rw [ba_size]; simp; omega) (qt s.data.toList) rfl _ (by rw [ba_size]; simp; omega)]
      unfold txtR
      rw [unq_qt]
      show some (if (s.data.toList.length : Int) > 100 then _ else _) = _
      rw [if_neg (by omega), ← ba_of s _ rfl]
    · rw [ba_of s _ hs]
      rcases hn' with rfl | rfl
      · refine back_of _ (by decide) 2000 (by decide) _ _ _ (rprint_false _) vprint_false ?_
        unfold value_Read.f
        rw [if_pos (by decide), Lib.toList_data, if_neg (by decide), if_pos rfl]
      · refine back_of _ (by decide) 2000 (by decide) _ _ _ (rprint_true _) vprint_true ?_
        unfold value_Read.f
        rw [if_pos (by decide), Lib.toList_data, if_neg (by decide), if_neg (by decide), if_pos rfl]
  · have e1 : jointerref01_Print.f 2000 k n s = some ((⟨#[]⟩ : ByteArray), 1) := by unfold jointerref01_Print.f; rw [rvalid_no k n s h]; rfl
    have e2 : value_Print.f k n s = some ((⟨#[]⟩ : ByteArray), 1) := by unfold value_Print.f; rw [vvalid_no k n s hn h]; rfl
    unfold jointerlaw01_ValuePrints.f
    rw [e1, e2]
    simp only [Option.bind_some]
    rw [if_pos trivial, jointerlaw01_ValuePrints.j0, if_neg (by simp), if_neg (by decide), awake_fromR (by omega)]
    rfl
theorem i64ok_of {a : Int} (h : (Lit.int .i64 a).wf = true) : i64ok a := by
  simpa [Lit.wf, IntKind.min, IntKind.max, IntKind.bits, IntKind.signed, i64ok] using h
end Go.Proofs.YtafdoogghalpjaaGreatDoor.PAll
