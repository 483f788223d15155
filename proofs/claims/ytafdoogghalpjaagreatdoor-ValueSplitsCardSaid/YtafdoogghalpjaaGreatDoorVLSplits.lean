import Derived.Test.YtafdoogghalpjaaGreatDoorVAwake
import Derived.Test.YtafdoogghalpjaaGreatDoorVFm
namespace Go.Proofs.YtafdoogghalpjaaGreatDoor.PAll
open Go.RowKit Go.Proofs.YtafdoogghalpjaaGreatDoorW.PrintWords Go.Proofs.YtafdoogghalpjaaGreatDoorW.PrintLast Go.Proofs.YtafdoogghalpjaaGreatDoorW.PrintMore
attribute [local go_sem] max2_int min2_int max_two min_two max_three min_three max_four min_four   -- for this text's walks alone
set_option linter.unusedVariables false
set_option linter.unusedSimpArgs false

attribute [local go_sem high] eqA24
/-! ### jointerlaw01_ValueSplits: function 6 -/
def jointerlaw01_ValueSplits.j0 : Nat → ByteArray → ByteArray → ByteArray → ByteArray → ByteArray → Bool → Option (Bool)
  | 0, _, _, _, _, _, _ => none
  | k + 1, x0, x1, x2, x3, x4, x20 => if x20 = true then ((jointerlaw01_awake.f k).bind fun t289 => (some t289)) else (if x0.size + x1.size ≤ 9223372036854775807 then (if x2.size + x3.size ≤ 9223372036854775807 then ((value_Matches.f k (x0 ++ x1) (x2 ++ x3)).bind fun t290 => (if t290 = true then (if x0.size + x4.size ≤ 9223372036854775807 then (if (x0 ++ x4).size + x1.size ≤ 9223372036854775807 then (if x2.size + 1 ≤ 9223372036854775807 then (if (x2 ++ (⟨#[37]⟩ : ByteArray)).size + x3.size ≤ 9223372036854775807 then ((value_Matches.f k ((x0 ++ x4) ++ x1) ((x2 ++ (⟨#[37]⟩ : ByteArray)) ++ x3)).bind fun t291 => (if t291 = true then ((jointerlaw01_awake.f k).bind fun t292 => (some t292)) else (some false))) else (none)) else (none)) else (none)) else (none)) else (some false))) else (none)) else (none))
def jointerlaw01_ValueSplits.f (k : Nat) (a0 : ByteArray) (a1 : ByteArray) (a2 : ByteArray) (a3 : ByteArray) (a4 : ByteArray) : Option (Bool) := (value_Matches.f k a0 a2).bind fun t287 => (if t287 = true then ((value_Matches.f k a1 a3).bind fun t288 => (jointerlaw01_ValueSplits.j0 k a0 a1 a2 a3 a4 (!t288))) else (jointerlaw01_ValueSplits.j0 k a0 a1 a2 a3 a4 true))
theorem jointerlaw01_ValueSplits.mono_l : ∀ k, (∀ y0 y1 y2 y3 y4 y5, LeO (jointerlaw01_ValueSplits.j0 k y0 y1 y2 y3 y4 y5) (jointerlaw01_ValueSplits.j0 (k + 1) y0 y1 y2 y3 y4 y5))
  | 0 => fun _ _ _ _ _ _ r h => by simp [jointerlaw01_ValueSplits.j0] at h
  | k + 1 => by
    have ih0 := jointerlaw01_ValueSplits.mono_l k
    · intro y0 y1 y2 y3 y4 y5
      unfold jointerlaw01_ValueSplits.j0
      repeat' first
      | (with_reducible exact ih0 _ _ _ _ _ _)
      | (with_reducible exact jointerlaw01_awake.mono _)
      | (with_reducible exact value_Matches.mono _ _ _)
      | (with_reducible exact LeO.refl _)
      | (with_reducible exact LeO.none _)
      | (with_reducible refine LeO.ite ?_ ?_)
      | (with_reducible refine LeO.bind ?_ (fun _ => ?_))
      | exact ih0 _ _ _ _ _ _
      | exact jointerlaw01_awake.mono _
      | exact value_Matches.mono _ _ _
      | exact LeO.none _
      | refine LeO.ite ?_ ?_
      | refine LeO.bind ?_ (fun _ => ?_)
theorem jointerlaw01_ValueSplits.mono : ∀ a0 a1 a2 a3 a4 k, LeO (jointerlaw01_ValueSplits.f k a0 a1 a2 a3 a4) (jointerlaw01_ValueSplits.f (k + 1) a0 a1 a2 a3 a4) := by
  intro a0 a1 a2 a3 a4 k
  have ih0 := jointerlaw01_ValueSplits.mono_l k
  unfold jointerlaw01_ValueSplits.f
  repeat' first
      | (with_reducible exact ih0 _ _ _ _ _ _)
      | (with_reducible exact jointerlaw01_awake.mono _)
      | (with_reducible exact value_Matches.mono _ _ _)
      | (with_reducible exact LeO.refl _)
      | (with_reducible exact LeO.none _)
      | (with_reducible refine LeO.ite ?_ ?_)
      | (with_reducible refine LeO.bind ?_ (fun _ => ?_))
      | exact ih0 _ _ _ _ _ _
      | exact jointerlaw01_awake.mono _
      | exact value_Matches.mono _ _ _
      | exact LeO.none _
      | refine LeO.ite ?_ ?_
      | refine LeO.bind ?_ (fun _ => ?_)
set_option maxHeartbeats 8000000 in
set_option maxRecDepth 100000 in
theorem jointerlaw01_ValueSplits.calls (k : Nat) (a0 : ByteArray) (a1 : ByteArray) (a2 : ByteArray) (a3 : ByteArray) (a4 : ByteArray) (r : Bool) (w : World) (hr : r = true) (h : jointerlaw01_ValueSplits.f k a0 a1 a2 a3 a4 = some r) (hL : LaidV w) :
    Calls Tryz.prog 6 #[.string a0, .string a1, .string a2, .string a3, .string a4] w fun e w' => e = .returned (.bool r) ∧ Below w.heap.size w w' := by
  have HR := Aside0.mk hr
  clear hr
  have HL := Aside0.mk hL
  clear hL
  have HB := Aside0.mk (Below.refl w.heap.size w)
  have H : ((value_Matches.f k a0 a2).bind fun t287 => (if t287 = true then ((value_Matches.f k a1 a3).bind fun t288 => (jointerlaw01_ValueSplits.j0 k a0 a1 a2 a3 a4 (!t288))) else (jointerlaw01_ValueSplits.j0 k a0 a1 a2 a3 a4 true))) = some r := h
  clear h
  have HC6 := Aside0.mk H
  clear H
  go_enter Tryz.func6, Tryz.ntmps6
  go_upto_region 1 with (fail)
  go_cut [20] (fun v20 wc => ∃ (kq : Nat) (x20_5 : Bool), v20 = .bool x20_5 ∧ Aside0 (jointerlaw01_ValueSplits.j0 kq a0 a1 a2 a3 a4 x20_5 = some r) ∧ Aside0 (kq ≤ k) ∧ Aside0 (Below w.heap.size w wc))
  case first =>
    have H := HC6.out
    clear HC6
    replace H := Option.bind_eq_some_iff.mp H
    obtain ⟨t287, A70, H⟩ := H
    replace H : (if t287 = true then ((value_Matches.f k a1 a3).bind fun t288 => (jointerlaw01_ValueSplits.j0 k a0 a1 a2 a3 a4 (!t288))) else (jointerlaw01_ValueSplits.j0 k a0 a1 a2 a3 a4 true)) = some r := H
    have A7 := Aside0.mk A70
    clear A70
    by_cases c8 : t287 = true
    · subst c8
      have H1 : ((value_Matches.f k a1 a3).bind fun t288 => (jointerlaw01_ValueSplits.j0 k a0 a1 a2 a3 a4 (!t288))) = some r := by rw [if_pos rfl] at H; exact H
      clear H
      have H := H1
      clear H1
      replace H := Option.bind_eq_some_iff.mp H
      obtain ⟨t288, A90, H⟩ := H
      replace H : (jointerlaw01_ValueSplits.j0 k a0 a1 a2 a3 a4 (!t288)) = some r := H
      have A9 := Aside0.mk A90
      clear A90
      have H' := Aside0.mk H
      clear H
      go_wp2_with (first | ((with_reducible refine gate_callee (f := 18) rfl ?_); refine goesL_ (some 13) rfl rfl Tryz.func18 (by kernel_rfl) rfl #[.string a0, .string a2] rfl (by (try simp only [List.map_toArray, List.map_cons, List.map_nil]); first | done | rfl | (simp only [List.length_drop, List.length_take]; rfl)) ?_; (with_reducible refine (value_Matches.calls k a0 a2 true _ A7.out).mono ?_); rintro e w10 ⟨rfl, hb⟩; refine ⟨_, rfl, ?_⟩; have n0_ := Aside0.mk (below_step (by repeat (first | (with_reducible first | exact HB.out | apply below_alloc | apply pw_below_drewN | apply below_drew1) | exact HB.out)) hb); clear HB; have HB := n0_; clear n0_; (try clear hb); (try clear hb2); (try clear hk); (try clear hi)) | (go_at_call 18; (with_reducible refine (value_Matches.calls k a1 a3 t288 _ A9.out).mono ?_); rintro e w11 ⟨rfl, hb⟩; have n0_ := Aside0.mk (below_step (by repeat (first | (with_reducible first | exact HB.out | apply below_alloc | apply pw_below_drewN | apply below_drew1) | exact HB.out)) hb); clear HB; have HB := n0_; clear n0_; (try clear hb); (try clear hb2); (try clear hk); (try clear hi)))
      go_meet
      case rel => exact ⟨_, (!t288), (by first | rfl | (simp; done) | (simp [*]; done)), H', ⟨by first | omega | exact Nat.le_refl _⟩, ⟨by repeat (first | (with_reducible first | exact HB.out | apply below_alloc | apply pw_below_drewN | apply below_drew1) | exact HB.out)⟩⟩
    · replace c8 := Bool.eq_false_iff.mpr c8
      subst c8
      have H1 : (jointerlaw01_ValueSplits.j0 k a0 a1 a2 a3 a4 true) = some r := by rw [if_neg (show ¬ (false = true) by decide)] at H; exact H
      clear H
      have H := H1
      clear H1
      have H' := Aside0.mk H
      clear H
      go_wp2_with (first | ((with_reducible refine gate_callee (f := 18) rfl ?_); refine goesL_ (some 13) rfl rfl Tryz.func18 (by kernel_rfl) rfl #[.string a0, .string a2] rfl (by (try simp only [List.map_toArray, List.map_cons, List.map_nil]); first | done | rfl | (simp only [List.length_drop, List.length_take]; rfl)) ?_; (with_reducible refine (value_Matches.calls k a0 a2 false _ A7.out).mono ?_); rintro e w12 ⟨rfl, hb⟩; refine ⟨_, rfl, ?_⟩; have n0_ := Aside0.mk (below_step (by repeat (first | (with_reducible first | exact HB.out | apply below_alloc | apply pw_below_drewN | apply below_drew1) | exact HB.out)) hb); clear HB; have HB := n0_; clear n0_; (try clear hb); (try clear hb2); (try clear hk); (try clear hi)))
      go_meet
      case rel => exact ⟨_, (true), (by first | rfl | (simp; done) | (simp [*]; done)), H', ⟨by first | omega | exact Nat.le_refl _⟩, ⟨by repeat (first | (with_reducible first | exact HB.out | apply below_alloc | apply pw_below_drewN | apply below_drew1) | exact HB.out)⟩⟩
  case rest =>
    clear HC6
    try clear c1
    try clear p2
    try clear c6
    try clear c8
    obtain ⟨kq, x20_5, rfl, HA, HJ5, HB⟩ := hcut
    cases kq with
    | zero => exact absurd HA.out (by simp [jointerlaw01_ValueSplits.j0])
    | succ kj5 =>
      have H := HA.out
      clear HA
      simp only [jointerlaw01_ValueSplits.j0] at H
      by_cases c13 : x20_5 = true
      · subst c13
        have H1 : ((jointerlaw01_awake.f kj5).bind fun t289 => (some t289)) = some r := by rw [if_pos rfl] at H; exact H
        clear H
        have H := H1
        clear H1
        replace H := Option.bind_eq_some_iff.mp H
        obtain ⟨t289, A140, H⟩ := H
        replace H : (some t289) = some r := H
        have A14 := Aside0.mk A140
        clear A140
        obtain rfl := Option.some.inj H
        go_wp2_with (first | ((with_reducible refine gate_callee (f := 14) rfl ?_); refine goesL_ (some 21) rfl rfl Tryz.func14 (by kernel_rfl) rfl #[] rfl (by (try simp only [List.map_toArray, List.map_cons, List.map_nil]); first | done | rfl | (simp only [List.length_drop, List.length_take]; rfl)) ?_; (with_reducible refine (jointerlaw01_awake.calls kj5  t289 _ A14.out (LaidV.below HL (by repeat (first | (with_reducible first | exact HB.out | apply below_alloc | apply pw_below_drewN | apply below_drew1) | exact HB.out)))).mono ?_); rintro e w15 ⟨rfl, hb⟩; refine ⟨_, rfl, ?_⟩; have n0_ := Aside0.mk (below_step (by repeat (first | (with_reducible first | exact HB.out | apply below_alloc | apply pw_below_drewN | apply below_drew1) | exact HB.out)) hb); clear HB; have HB := n0_; clear n0_; (try clear hb); (try clear hb2); (try clear hk); (try clear hi)))
        go_ret
        exact ⟨by first | rfl | (simp [errW_none, errW_some] <;> rfl) | (simp [*, errW_none, errW_some] <;> rfl), by repeat (first | (with_reducible first | exact HB.out | apply below_alloc | apply pw_below_drewN | apply below_drew1) | exact HB.out)⟩
      · replace c13 := Bool.eq_false_iff.mpr c13
        subst c13
        have H1 : (if a0.size + a1.size ≤ 9223372036854775807 then (if a2.size + a3.size ≤ 9223372036854775807 then ((value_Matches.f kj5 (a0 ++ a1) (a2 ++ a3)).bind fun t290 => (if t290 = true then (if a0.size + a4.size ≤ 9223372036854775807 then (if (a0 ++ a4).size + a1.size ≤ 9223372036854775807 then (if a2.size + 1 ≤ 9223372036854775807 then (if (a2 ++ (⟨#[37]⟩ : ByteArray)).size + a3.size ≤ 9223372036854775807 then ((value_Matches.f kj5 ((a0 ++ a4) ++ a1) ((a2 ++ (⟨#[37]⟩ : ByteArray)) ++ a3)).bind fun t291 => (if t291 = true then ((jointerlaw01_awake.f kj5).bind fun t292 => (some t292)) else (some false))) else (none)) else (none)) else (none)) else (none)) else (some false))) else (none)) else (none)) = some r := by rw [if_neg (show ¬ (false = true) by decide)] at H; exact H
        clear H
        have H := H1
        clear H1
        by_cases c16 : a0.size + a1.size ≤ 9223372036854775807
        · rw [if_pos c16] at H
          have c16b0 := eq_true c16
          have c16b1 : decide (a0.size + a1.size ≤ 9223372036854775807) = true := decide_eq_true c16
          try have c16b2 : (9223372036854775807 < a0.size + a1.size) = False := eq_false (Nat.not_lt.2 c16)
          by_cases c17 : a2.size + a3.size ≤ 9223372036854775807
          · rw [if_pos c17] at H
            have c17b0 := eq_true c17
            have c17b1 : decide (a2.size + a3.size ≤ 9223372036854775807) = true := decide_eq_true c17
            try have c17b2 : (9223372036854775807 < a2.size + a3.size) = False := eq_false (Nat.not_lt.2 c17)
            replace H := Option.bind_eq_some_iff.mp H
            obtain ⟨t290, A180, H⟩ := H
            replace H : (if t290 = true then (if a0.size + a4.size ≤ 9223372036854775807 then (if (a0 ++ a4).size + a1.size ≤ 9223372036854775807 then (if a2.size + 1 ≤ 9223372036854775807 then (if (a2 ++ (⟨#[37]⟩ : ByteArray)).size + a3.size ≤ 9223372036854775807 then ((value_Matches.f kj5 ((a0 ++ a4) ++ a1) ((a2 ++ (⟨#[37]⟩ : ByteArray)) ++ a3)).bind fun t291 => (if t291 = true then ((jointerlaw01_awake.f kj5).bind fun t292 => (some t292)) else (some false))) else (none)) else (none)) else (none)) else (none)) else (some false)) = some r := H
            have A18 := Aside0.mk A180
            clear A180
            by_cases c19 : t290 = true
            · subst c19
              have H1 : (if a0.size + a4.size ≤ 9223372036854775807 then (if (a0 ++ a4).size + a1.size ≤ 9223372036854775807 then (if a2.size + 1 ≤ 9223372036854775807 then (if (a2 ++ (⟨#[37]⟩ : ByteArray)).size + a3.size ≤ 9223372036854775807 then ((value_Matches.f kj5 ((a0 ++ a4) ++ a1) ((a2 ++ (⟨#[37]⟩ : ByteArray)) ++ a3)).bind fun t291 => (if t291 = true then ((jointerlaw01_awake.f kj5).bind fun t292 => (some t292)) else (some false))) else (none)) else (none)) else (none)) else (none)) = some r := by rw [if_pos rfl] at H; exact H
              clear H
              have H := H1
              clear H1
              by_cases c20 : a0.size + a4.size ≤ 9223372036854775807
              · rw [if_pos c20] at H
                have c20b0 := eq_true c20
                have c20b1 : decide (a0.size + a4.size ≤ 9223372036854775807) = true := decide_eq_true c20
                try have c20b2 : (9223372036854775807 < a0.size + a4.size) = False := eq_false (Nat.not_lt.2 c20)
                by_cases c21 : (a0 ++ a4).size + a1.size ≤ 9223372036854775807
                · rw [if_pos c21] at H
                  have c21b0 := eq_true c21
                  have c21b1 : decide ((a0 ++ a4).size + a1.size ≤ 9223372036854775807) = true := decide_eq_true c21
                  try have c21b2 : (9223372036854775807 < (a0 ++ a4).size + a1.size) = False := eq_false (Nat.not_lt.2 c21)
                  by_cases c22 : a2.size + 1 ≤ 9223372036854775807
                  · rw [if_pos c22] at H
                    have c22b0 := eq_true c22
                    have c22b1 : decide (a2.size + 1 ≤ 9223372036854775807) = true := decide_eq_true c22
                    try have c22b2 : (9223372036854775807 < a2.size + 1) = False := eq_false (Nat.not_lt.2 c22)
                    by_cases c23 : (a2 ++ (⟨#[37]⟩ : ByteArray)).size + a3.size ≤ 9223372036854775807
                    · rw [if_pos c23] at H
                      have c23b0 := eq_true c23
                      have c23b1 : decide ((a2 ++ (⟨#[37]⟩ : ByteArray)).size + a3.size ≤ 9223372036854775807) = true := decide_eq_true c23
                      try have c23b2 : (9223372036854775807 < (a2 ++ (⟨#[37]⟩ : ByteArray)).size + a3.size) = False := eq_false (Nat.not_lt.2 c23)
                      replace H := Option.bind_eq_some_iff.mp H
                      obtain ⟨t291, A240, H⟩ := H
                      replace H : (if t291 = true then ((jointerlaw01_awake.f kj5).bind fun t292 => (some t292)) else (some false)) = some r := H
                      have A24 := Aside0.mk A240
                      clear A240
                      by_cases c25 : t291 = true
                      · subst c25
                        have H1 : ((jointerlaw01_awake.f kj5).bind fun t292 => (some t292)) = some r := by rw [if_pos rfl] at H; exact H
                        clear H
                        have H := H1
                        clear H1
                        replace H := Option.bind_eq_some_iff.mp H
                        obtain ⟨t292, A260, H⟩ := H
                        replace H : (some t292) = some r := H
                        have A26 := Aside0.mk A260
                        clear A260
                        obtain rfl := Option.some.inj H
                        go_wp2_with (first | ((with_reducible refine gate_callee (f := 18) rfl ?_); refine goesL_ (some 28) rfl rfl Tryz.func18 (by kernel_rfl) rfl #[.string (a0 ++ a1), .string (a2 ++ a3)] rfl (by (try simp only [List.map_toArray, List.map_cons, List.map_nil]); first | done | rfl | (simp only [List.length_drop, List.length_take]; rfl)) ?_; (with_reducible refine (value_Matches.calls kj5 (a0 ++ a1) (a2 ++ a3) true _ A18.out).mono ?_); rintro e w27 ⟨rfl, hb⟩; refine ⟨_, rfl, ?_⟩; have n0_ := Aside0.mk (below_step (by repeat (first | (with_reducible first | exact HB.out | apply below_alloc | apply pw_below_drewN | apply below_drew1) | exact HB.out)) hb); clear HB; have HB := n0_; clear n0_; (try clear hb); (try clear hb2); (try clear hk); (try clear hi)) | (go_at_call 18; (with_reducible refine (value_Matches.calls kj5 ((a0 ++ a4) ++ a1) ((a2 ++ (⟨#[37]⟩ : ByteArray)) ++ a3) true _ A24.out).mono ?_); rintro e w28 ⟨rfl, hb⟩; have n0_ := Aside0.mk (below_step (by repeat (first | (with_reducible first | exact HB.out | apply below_alloc | apply pw_below_drewN | apply below_drew1) | exact HB.out)) hb); clear HB; have HB := n0_; clear n0_; (try clear hb); (try clear hb2); (try clear hk); (try clear hi)) | (go_at_call 14; (with_reducible refine (jointerlaw01_awake.calls kj5  t292 _ A26.out (LaidV.below HL (by repeat (first | (with_reducible first | exact HB.out | apply below_alloc | apply pw_below_drewN | apply below_drew1) | exact HB.out)))).mono ?_); rintro e w29 ⟨rfl, hb⟩; have n0_ := Aside0.mk (below_step (by repeat (first | (with_reducible first | exact HB.out | apply below_alloc | apply pw_below_drewN | apply below_drew1) | exact HB.out)) hb); clear HB; have HB := n0_; clear n0_; (try clear hb); (try clear hb2); (try clear hk); (try clear hi)))
                        go_ret
                        exact ⟨by first | rfl | (simp [errW_none, errW_some] <;> rfl) | (simp [*, errW_none, errW_some] <;> rfl), by repeat (first | (with_reducible first | exact HB.out | apply below_alloc | apply pw_below_drewN | apply below_drew1) | exact HB.out)⟩
                      · replace c25 := Bool.eq_false_iff.mpr c25
                        subst c25
                        have H1 : (some false) = some r := by rw [if_neg (show ¬ (false = true) by decide)] at H; exact H
                        clear H
                        have H := H1
                        clear H1
                        obtain rfl := Option.some.inj H
                        exact absurd HR.out (by decide) -- leaf 3
                    · rw [if_neg c23] at H
                      exact absurd H (by simp)
                  · rw [if_neg c22] at H
                    exact absurd H (by simp)
                · rw [if_neg c21] at H
                  exact absurd H (by simp)
              · rw [if_neg c20] at H
                exact absurd H (by simp)
            · replace c19 := Bool.eq_false_iff.mpr c19
              subst c19
              have H1 : (some false) = some r := by rw [if_neg (show ¬ (false = true) by decide)] at H; exact H
              clear H
              have H := H1
              clear H1
              obtain rfl := Option.some.inj H
              exact absurd HR.out (by decide) -- leaf 4
          · rw [if_neg c17] at H
            exact absurd H (by simp)
        · rw [if_neg c16] at H
          exact absurd H (by simp)

/-- THE ONE PURE STATEMENT of jointerlaw01_ValueSplits: yours. -/
def jointerlaw01_ValueSplits.Pure : Prop := ∀ (a0 : ByteArray) (a1 : ByteArray) (a2 : ByteArray) (a3 : ByteArray) (a4 : ByteArray), a0.size ≤ 140737488351232 → a1.size ≤ 140737488351232 → a2.size ≤ 140737488351232 → a3.size ≤ 140737488351232 → a4.size ≤ 140737488351232 → ∃ k, jointerlaw01_ValueSplits.f k a0 a1 a2 a3 a4 = some true
theorem jointerlaw01_ValueSplits.walk (P : jointerlaw01_ValueSplits.Pure) (a0 : ByteArray) (a1 : ByteArray) (a2 : ByteArray) (a3 : ByteArray) (a4 : ByteArray) (w : World) (w0 : a0.size ≤ 140737488351232) (w1 : a1.size ≤ 140737488351232) (w2 : a2.size ≤ 140737488351232) (w3 : a3.size ≤ 140737488351232) (w4 : a4.size ≤ 140737488351232) (hL : LaidV w) :
    Calls Tryz.prog 6 #[.string a0, .string a1, .string a2, .string a3, .string a4] w fun e w' => e = .returned (.bool true) ∧ Below w.heap.size w w' := by
  obtain ⟨k, h⟩ := P a0 a1 a2 a3 a4 w0 w1 w2 w3 w4
  refine (jointerlaw01_ValueSplits.calls k a0 a1 a2 a3 a4 true w rfl h hL).mono ?_
  rintro e w' ⟨rfl, hd⟩
  exact ⟨rfl, hd⟩


end Go.Proofs.YtafdoogghalpjaaGreatDoor.PAll
