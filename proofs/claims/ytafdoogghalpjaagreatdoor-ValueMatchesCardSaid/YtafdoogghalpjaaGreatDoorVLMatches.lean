import Derived.Test.YtafdoogghalpjaaGreatDoorVAwake
import Derived.Test.YtafdoogghalpjaaGreatDoorVFd
import Derived.Test.YtafdoogghalpjaaGreatDoorVFm
namespace Go.Proofs.YtafdoogghalpjaaGreatDoor.PAll
open Go.RowKit Go.Proofs.YtafdoogghalpjaaGreatDoorW.PrintWords Go.Proofs.YtafdoogghalpjaaGreatDoorW.PrintLast Go.Proofs.YtafdoogghalpjaaGreatDoorW.PrintMore
attribute [local go_sem] max2_int min2_int max_two min_two max_three min_three max_four min_four   -- for this text's walks alone
set_option linter.unusedVariables false
set_option linter.unusedSimpArgs false

attribute [local go_sem high] eqA24
/-! ### jointerlaw01_ValueMatches: function 5 -/
def jointerlaw01_ValueMatches.f (k : Nat) (a0 : ByteArray) (a1 : ByteArray) : Option (Bool) := (jointerref01_Matches.f k a0 a1).bind fun t284 => ((value_Matches.f k a0 a1).bind fun t285 => (if (t285 == t284) = true then ((jointerlaw01_awake.f k).bind fun t286 => (some t286)) else (some false)))
theorem jointerlaw01_ValueMatches.mono : ∀ a0 a1 k, LeO (jointerlaw01_ValueMatches.f k a0 a1) (jointerlaw01_ValueMatches.f (k + 1) a0 a1) := by
  intro a0 a1 k
  unfold jointerlaw01_ValueMatches.f
  repeat' first
      | (with_reducible exact jointerlaw01_awake.mono _)
      | (with_reducible exact jointerref01_Matches.mono _ _ _)
      | (with_reducible exact value_Matches.mono _ _ _)
      | (with_reducible exact LeO.refl _)
      | (with_reducible exact LeO.none _)
      | (with_reducible refine LeO.ite ?_ ?_)
      | (with_reducible refine LeO.bind ?_ (fun _ => ?_))
      | exact jointerlaw01_awake.mono _
      | exact jointerref01_Matches.mono _ _ _
      | exact value_Matches.mono _ _ _
      | exact LeO.none _
      | refine LeO.ite ?_ ?_
      | refine LeO.bind ?_ (fun _ => ?_)
set_option maxHeartbeats 8000000 in
set_option maxRecDepth 100000 in
theorem jointerlaw01_ValueMatches.calls (k : Nat) (a0 : ByteArray) (a1 : ByteArray) (r : Bool) (w : World) (hr : r = true) (h : jointerlaw01_ValueMatches.f k a0 a1 = some r) (hL : LaidV w) :
    Calls Tryz.prog 5 #[.string a0, .string a1] w fun e w' => e = .returned (.bool r) ∧ Below w.heap.size w w' := by
  have HR := Aside0.mk hr
  clear hr
  have HL := Aside0.mk hL
  clear hL
  have HB := Aside0.mk (Below.refl w.heap.size w)
  have H : ((jointerref01_Matches.f k a0 a1).bind fun t284 => ((value_Matches.f k a0 a1).bind fun t285 => (if (t285 == t284) = true then ((jointerlaw01_awake.f k).bind fun t286 => (some t286)) else (some false)))) = some r := h
  clear h
  replace H := Option.bind_eq_some_iff.mp H
  obtain ⟨t284, A30, H⟩ := H
  replace H : ((value_Matches.f k a0 a1).bind fun t285 => (if (t285 == t284) = true then ((jointerlaw01_awake.f k).bind fun t286 => (some t286)) else (some false))) = some r := H
  have A3 := Aside0.mk A30
  clear A30
  replace H := Option.bind_eq_some_iff.mp H
  obtain ⟨t285, A40, H⟩ := H
  replace H : (if (t285 == t284) = true then ((jointerlaw01_awake.f k).bind fun t286 => (some t286)) else (some false)) = some r := H
  have A4 := Aside0.mk A40
  clear A40
  by_cases c5 : (t285 == t284) = true
  · rw [if_pos c5] at H
    have c5b0 : (t285 == t284) = true := c5
    (try (have c5b1 : decide (t285 = t284) = true := by simpa using c5))
    (try (have c5b2 : (t285 == t284) = true := by simpa using c5))
    clear c5
    replace H := Option.bind_eq_some_iff.mp H
    obtain ⟨t286, A60, H⟩ := H
    replace H : (some t286) = some r := H
    have A6 := Aside0.mk A60
    clear A60
    obtain rfl := Option.some.inj H
    go_enter Tryz.func5, Tryz.ntmps5
    go_wp2_with (first | ((with_reducible refine gate_callee (f := 17) rfl ?_); refine goesL_ (some 8) rfl rfl Tryz.func17 (by kernel_rfl) rfl #[.string a0, .string a1] rfl (by (try simp only [List.map_toArray, List.map_cons, List.map_nil]); first | done | rfl | (simp only [List.length_drop, List.length_take]; rfl)) ?_; (with_reducible refine (jointerref01_Matches.calls k a0 a1 t284 _ A3.out).mono ?_); rintro e w7 ⟨rfl, hb⟩; refine ⟨_, rfl, ?_⟩; have n0_ := Aside0.mk (below_step (by repeat (first | (with_reducible first | exact HB.out | apply below_alloc | apply pw_below_drewN | apply below_drew1) | exact HB.out)) hb); clear HB; have HB := n0_; clear n0_; (try clear hb); (try clear hb2); (try clear hk); (try clear hi)) | ((with_reducible refine gate_callee (f := 18) rfl ?_); refine goesL_ (some 11) rfl rfl Tryz.func18 (by kernel_rfl) rfl #[.string a0, .string a1] rfl (by (try simp only [List.map_toArray, List.map_cons, List.map_nil]); first | done | rfl | (simp only [List.length_drop, List.length_take]; rfl)) ?_; (with_reducible refine (value_Matches.calls k a0 a1 t285 _ A4.out).mono ?_); rintro e w8 ⟨rfl, hb⟩; refine ⟨_, rfl, ?_⟩; have n0_ := Aside0.mk (below_step (by repeat (first | (with_reducible first | exact HB.out | apply below_alloc | apply pw_below_drewN | apply below_drew1) | exact HB.out)) hb); clear HB; have HB := n0_; clear n0_; (try clear hb); (try clear hb2); (try clear hk); (try clear hi)) | (go_at_call 14; (with_reducible refine (jointerlaw01_awake.calls k  t286 _ A6.out (LaidV.below HL (by repeat (first | (with_reducible first | exact HB.out | apply below_alloc | apply pw_below_drewN | apply below_drew1) | exact HB.out)))).mono ?_); rintro e w9 ⟨rfl, hb⟩; have n0_ := Aside0.mk (below_step (by repeat (first | (with_reducible first | exact HB.out | apply below_alloc | apply pw_below_drewN | apply below_drew1) | exact HB.out)) hb); clear HB; have HB := n0_; clear n0_; (try clear hb); (try clear hb2); (try clear hk); (try clear hi)))
    go_ret
    exact ⟨by first | rfl | (simp [errW_none, errW_some] <;> rfl) | (simp [*, errW_none, errW_some] <;> rfl), by repeat (first | (with_reducible first | exact HB.out | apply below_alloc | apply pw_below_drewN | apply below_drew1) | exact HB.out)⟩
  · rw [if_neg c5] at H
    have c5b0 : (t285 == t284) = false := by simpa using c5
    (try (have c5b1 : decide (t285 = t284) = false := by simpa using c5))
    (try (have c5b2 : (t285 == t284) = false := by simpa using c5))
    (try (have c5b3 : ¬ (t285 = t284) := by simpa using c5))
    clear c5
    obtain rfl := Option.some.inj H
    exact absurd HR.out (by decide) -- leaf 2
/-- THE ONE PURE STATEMENT of jointerlaw01_ValueMatches: yours. -/
def jointerlaw01_ValueMatches.Pure : Prop := ∀ (a0 : ByteArray) (a1 : ByteArray), a0.size ≤ 140737488351232 → a1.size ≤ 140737488351232 → ∃ k, jointerlaw01_ValueMatches.f k a0 a1 = some true
theorem jointerlaw01_ValueMatches.walk (P : jointerlaw01_ValueMatches.Pure) (a0 : ByteArray) (a1 : ByteArray) (w : World) (w0 : a0.size ≤ 140737488351232) (w1 : a1.size ≤ 140737488351232) (hL : LaidV w) :
    Calls Tryz.prog 5 #[.string a0, .string a1] w fun e w' => e = .returned (.bool true) ∧ Below w.heap.size w w' := by
  obtain ⟨k, h⟩ := P a0 a1 w0 w1
  refine (jointerlaw01_ValueMatches.calls k a0 a1 true w rfl h hL).mono ?_
  rintro e w' ⟨rfl, hd⟩
  exact ⟨rfl, hd⟩


end Go.Proofs.YtafdoogghalpjaaGreatDoor.PAll
