/- ValueValids: whether any value is valid, and what Int, Text and Bool make, are what the reference says: the law returns true for every value (kind, integer, text), text and bool. No other condition. -/
import Derived.Test.YtafdoogghalpjaaRows
import Derived.Test.YtafdoogghalpjaaVVWalks
import Derived.WalkKit
import Derived.ProofKit
import Derived.OpenShut
import Derived.ShutString
import Derived.ChangeOld
import Derived.Below
import Derived.Carry
import Derived.SizedLaws
import Derived.Lib.SmallJoins
import Derived.Laws.Bits64
namespace Go.Proofs.Ytafdoogghalpjaa.valueValids
open Go.ChangeShapes Go.WideShapes Go.ChangeAt Go.RowKit Go.Proofs.Ytafdoogghalpjaa.PValueValids
open Go.ChangeMaps (open_string shut_string)
set_option linter.unusedVariables false

theorem valid_same (k n : Int) (s : ByteArray) (hn : -9223372036854775808 ≤ n ∧ n ≤ 9223372036854775807) : ∃ b, value_Valid.f k n s = some b ∧ jointerref01_Valid.f k n s = some b := by
  unfold value_Valid.f jointerref01_Valid.f
  by_cases h0 : k = 0
  · subst h0
    by_cases h1 : n = 0
    · subst h1; exact ⟨_, rfl, by simp⟩
    · exact ⟨false, by simp [h1], by simp [h1]⟩
  · rw [if_neg h0, if_neg h0]
    by_cases h1 : k = 1
    · rw [if_pos h1, if_pos h1]; exact ⟨_, rfl, rfl⟩
    · rw [if_neg h1, if_neg h1]
      by_cases h2 : k = 2
      · rw [if_pos h2, if_pos h2]
        by_cases h3 : n = 0
        · rw [if_pos h3]; exact ⟨_, rfl, rfl⟩
        · rw [if_neg h3]; exact ⟨_, rfl, rfl⟩
      · rw [if_neg h2, if_neg h2]
        by_cases h3 : k = 3
        · rw [if_pos h3, if_pos h3]
          have hw : (IntKind.u64.wrap n ≤ 1) ↔ (n = 0 ∨ n = 1) := by rw [IntKind.wrap_u64]; omega
          by_cases hs : s.toList = ([] : List UInt8)
          · rw [if_pos hs]
            by_cases h4 : n = 0
            · rw [if_pos h4]; exact ⟨true, by rw [decide_eq_true (hw.mpr (Or.inl h4))], by simp [hs]⟩
            · rw [if_neg h4]
              by_cases h5 : n = 1
              · rw [if_pos h5]; exact ⟨true, by rw [decide_eq_true (hw.mpr (Or.inr h5))], by simp [hs]⟩
              · rw [if_neg h5]; exact ⟨false, by simp [hw, h4, h5], rfl⟩
          · rw [if_neg hs]
            by_cases h4 : n = 0
            · rw [if_pos h4]; exact ⟨false, rfl, by simp [hs]⟩
            · rw [if_neg h4]
              by_cases h5 : n = 1
              · rw [if_pos h5]; exact ⟨false, rfl, by simp [hs]⟩
              · rw [if_neg h5]; exact ⟨false, rfl, rfl⟩
        · rw [if_neg h3, if_neg h3]; exact ⟨_, rfl, rfl⟩

theorem same_self (k n : Int) (s : ByteArray) : jointerref01_Same.f k n s k n s = some true := by
  unfold jointerref01_Same.f; simp

theorem pure_ (k n : Int) (s : ByteArray) (t : ByteArray) (b : Bool) (hn : -9223372036854775808 ≤ n ∧ n ≤ 9223372036854775807) : jointerlaw01_ValueValids.f k n s t b = some true := by
  obtain ⟨v, h1, h2⟩ := valid_same k n s hn
  have hT : value_Text.f t = jointerref01_Text.f t := rfl
  have hI : value_Int.f n = jointerref01_Int.f n := rfl
  have hB : value_Bool.f b = jointerref01_Bool.f b := rfl
  unfold jointerlaw01_ValueValids.f
  rw [h1, h2, hT, hI, hB]
  simp only [Option.bind_some]
  by_cases hlong : (t.size : Int) > 100
  · have e : jointerref01_Text.f t = some (0, 0, ⟨#[]⟩, 5) := by unfold jointerref01_Text.f; rw [if_pos hlong]
    rw [e]; simp only [Option.bind_some]
    have e2 : jointerref01_Int.f n = some (1, n, ⟨#[]⟩) := rfl
    rw [e2]; simp only [Option.bind_some, same_self]
    cases b <;> simp [jointerref01_Bool.f, same_self, value_Valid.f, IntKind.wrap_u64]
  · have e : jointerref01_Text.f t = some (2, 0, t, 0) := by unfold jointerref01_Text.f; rw [if_neg hlong]
    have hl : (t.size : Int) ≤ 100 := by omega
    rw [e]; simp only [Option.bind_some]
    have e2 : jointerref01_Int.f n = some (1, n, ⟨#[]⟩) := rfl
    rw [e2]; simp only [Option.bind_some, same_self]
    have hl' : t.size ≤ 100 := by omega
    cases b <;> simp [jointerref01_Bool.f, same_self, value_Valid.f, IntKind.wrap_u64, hl]

theorem own : ownKnob Try.prog.godebug = none := by kernel_rfl
theorem laidOut : laidOutB Try.prog = true := by kernel_rfl
set_option maxRecDepth 100000 in
theorem lifted (os : Os) (started : os.Started) (H : Type) (enc : TypeId × Value → H) :
    ReturnsInHanded {} Try.checked os 4 .any (Rows.valueValidsSpec.pre6 enc Try.prog Try.f4 Rows.valueValidsRow.domain false) (Rows.valueValidsSpec.post enc Try.prog Try.f4 false true false false) := by
  refine returnsInHanded_of_change_sized (C := Try.checked) own started (by kernel_rfl) Try.func4
    (ChangeSpec.witness6 (enc := enc) (C := Try.checked) false ⟨#[], #[.agg #[.int .u8 0, .int .i64 0, .string ⟨#[]⟩], .string ⟨#[]⟩, .bool false], []⟩ 8 (by kernel_rfl) (by kernel_rfl) (by kernel_rfl) (by kernel_rfl)) ?_
  intro W base args ds gs before hval0 hW hcnd hsz0 _
  have hsz : (DataW.weightsEach Try.prog (Try.f4.params.toList ++ Rows.valueValidsSpec.plain.varTypes Try.prog) (ds ++ gs)).all (· ≤ reachBytes) = true := hsz0
  have hval : ∀ (j : Nat) t v, Try.f4.params[j]? = some t → args[j]? = some v → Value.okWide Try.prog W .any base t v := hval0
  have hW' := hW
  obtain ⟨p, q, hA0, hV, rfl, hfz, hnd⟩ := hW
  have hA : DataW.TrodAll enc Try.prog W 0 (fun _ => true) true Try.f4.params.toList args.toList ds p := hA0
  rw [Try.params4] at hA hval hsz
  obtain ⟨v0, vs0, d0, ds0, p0, q0, hargs, rfl, rfl, h0, r0⟩ := trodAll_cons hA
  obtain ⟨v1, vs1, d1, ds1, p1, q1, rfl, rfl, rfl, h1, r1⟩ := trodAll_cons r0
  obtain ⟨v2, vs2, d2, ds2, p2, q2, rfl, rfl, rfl, h2, r2⟩ := trodAll_cons r1
  obtain ⟨rfl, rfl, rfl⟩ := trodAll_nil r2
  obtain rfl : args = #[v0, v1, v2] := by cases args; simp_all
  obtain ⟨rfl, rfl⟩ := trodVars_none hV
  have k0 := h0
  obtain ⟨c0, c1, c2, y0, y1, y2, m, rfl, rfl, rfl, hy0, hy1, hy2⟩ := Joins.open_agg3 Try.underlying26 (by kernel_rfl) (by kernel_rfl) (hval 0 26 v0 rfl rfl) h0
  obtain ⟨a, e0, rfl, wa⟩ := DataW.trod_int Try.underlying24 hy0
  obtain ⟨b, e1, rfl, wb⟩ := DataW.trod_int Try.underlying2 hy1
  obtain ⟨s, e2, rfl, ws⟩ := DataW.trod_string Try.underlying9 hy2
  simp at e0 e1 e2
  subst e0 e1 e2
  obtain ⟨a1, rfl, rfl, rfl, w1⟩ := open_string Try.underlying9 (hval 1 9 v1 rfl rfl) h1
  obtain ⟨a2, rfl, rfl, rfl⟩ := open_bool Try.underlying4 (hval 2 4 v2 rfl rfl) h2
  clear hA0 hval0 hsz0 hsz
  have hb : -9223372036854775808 ≤ b ∧ b ≤ 9223372036854775807 := by simpa [Lit.wf, IntKind.min, IntKind.max, IntKind.bits, IntKind.signed] using wb
  refine (jointerlaw01_ValueValids.calls a b s a1 a2 true W rfl (pure_ a b s a1 a2 hb)).mono fun e W' ⟨he, bel⟩ => ?_
  subst he
  exact ⟨_, rfl, _, _, _, [], _, [], hW', trodAll_mk1 (shut_bool Try.underlying4 _), (trodAll_cons_mk (Below.trod laidOut (by kernel_rfl) (of_decide_eq_true (by kernel_rfl)) k0 bel (fun x hx => by simp at hx)) (trodAll_cons_mk (shut_string Try.underlying9 w1) (trodAll_cons_mk (shut_bool Try.underlying4 _) trodAll_mk0))), rfl, bel.frame _, fun h => by cases h⟩
theorem over : Rows.valueValidsRow.holds Try.pinned (OpenSpec.ofChange Rows.valueValidsSpec) :=
  OpenClaim.holds_of_wide 4 Try.f4 rfl rfl rfl rfl rfl rfl rfl ⟨rfl, rfl, rfl, rfl, rfl⟩ rfl rfl rfl rfl rfl (by kernel_rfl) Try.func4 (by kernel_rfl)
    (of_decide_eq_true (by kernel_rfl)) (by unfold Func.isWrapper; first | (rw [if_pos (by decide +kernel)]; kernel_rfl) | (rw [if_neg (by decide +kernel)]; exact ⟨rfl, rfl⟩))
    (fun os started H enc _ => lifted os started H enc)
theorem proved : Rows.ValueValidsSaid := over
#print axioms proved
end Go.Proofs.Ytafdoogghalpjaa.valueValids
namespace Go.Proofs.Ytafdoogghalpjaa
/-- The row, under a short name, for the claim. -/
theorem valueValids_holds : Rows.ValueValidsSaid := valueValids.proved
end Go.Proofs.Ytafdoogghalpjaa
