import Derived.Test.YtafdoogghalpjaaGreatDoorVAwake
import Derived.Test.YtafdoogghalpjaaGreatDoorVMul
import Derived.Test.YtafdoogghalpjaaGreatDoorVFg
import Derived.Test.YtafdoogghalpjaaGreatDoorVFc
namespace Go.Proofs.YtafdoogghalpjaaGreatDoor.PAll
open Go.RowKit Go.Proofs.YtafdoogghalpjaaGreatDoorW.PrintWords Go.Proofs.YtafdoogghalpjaaGreatDoorW.PrintLast Go.Proofs.YtafdoogghalpjaaGreatDoorW.PrintMore
attribute [local go_sem] max2_int min2_int max_two min_two max_three min_three max_four min_four   -- for this text's walks alone
set_option linter.unusedVariables false
set_option linter.unusedSimpArgs false

attribute [local go_sem high] eqA24
/-! ### jointerlaw01_ValueDivides: function 11 -/
mutual
def jointerlaw01_ValueDivides.j0 : Nat → Int → Int → Int → Int → Int → Bool → Option (Bool)
  | 0, _, _, _, _, _, _ => none
  | k + 1, x0, x1, x5, x6, x7, x57 => if x57 = true then (some false) else (if x7 = 0 then (jointerlaw01_ValueDivides.j1 k x0 x1 x5 x6 x7 true) else (if x7 > 0 then (if x1 > 0 then (if x7 < x1 then (jointerlaw01_ValueDivides.j1 k x0 x1 x5 x6 x7 true) else (if x1 < 0 then (if (wrap64 (-x7)) > x1 then (jointerlaw01_ValueDivides.j1 k x0 x1 x5 x6 x7 true) else (if x7 < 0 then (if (wrap64 (-x7)) < x1 then (jointerlaw01_ValueDivides.j1 k x0 x1 x5 x6 x7 true) else (jointerlaw01_ValueDivides.j1 k x0 x1 x5 x6 x7 (decide (x7 > x1)))) else (jointerlaw01_ValueDivides.j1 k x0 x1 x5 x6 x7 false))) else (if x7 < 0 then (if (wrap64 (-x7)) < x1 then (jointerlaw01_ValueDivides.j1 k x0 x1 x5 x6 x7 true) else (jointerlaw01_ValueDivides.j1 k x0 x1 x5 x6 x7 false)) else (jointerlaw01_ValueDivides.j1 k x0 x1 x5 x6 x7 false)))) else (if x1 < 0 then (if (wrap64 (-x7)) > x1 then (jointerlaw01_ValueDivides.j1 k x0 x1 x5 x6 x7 true) else (if x7 < 0 then (jointerlaw01_ValueDivides.j1 k x0 x1 x5 x6 x7 (decide (x7 > x1))) else (jointerlaw01_ValueDivides.j1 k x0 x1 x5 x6 x7 false))) else (if x7 < 0 then (jointerlaw01_ValueDivides.j1 k x0 x1 x5 x6 x7 false) else (jointerlaw01_ValueDivides.j1 k x0 x1 x5 x6 x7 false)))) else (if x7 < 0 then (if x1 > 0 then (if (wrap64 (-x7)) < x1 then (jointerlaw01_ValueDivides.j1 k x0 x1 x5 x6 x7 true) else (if x1 < 0 then (jointerlaw01_ValueDivides.j1 k x0 x1 x5 x6 x7 (decide (x7 > x1))) else (jointerlaw01_ValueDivides.j1 k x0 x1 x5 x6 x7 false))) else (if x1 < 0 then (jointerlaw01_ValueDivides.j1 k x0 x1 x5 x6 x7 (decide (x7 > x1))) else (jointerlaw01_ValueDivides.j1 k x0 x1 x5 x6 x7 false))) else (jointerlaw01_ValueDivides.j1 k x0 x1 x5 x6 x7 false))))
def jointerlaw01_ValueDivides.j1 : Nat → Int → Int → Int → Int → Int → Bool → Option (Bool)
  | 0, _, _, _, _, _, _ => none
  | k + 1, x0, x1, x5, x6, x7, x9 => if x6 = 0 then ((value_Mul.f x5 x1).bind fun bt409 => ((value_Add.f bt409.1 x7).bind fun bt411 => (if x9 = true then (if bt409.2 = 0 then (if bt411.2 = 0 then (if bt411.1 = x0 then ((jointerlaw01_awake.f k).bind fun t413 => (some t413)) else (some false)) else (some false)) else (some false)) else (some false)))) else (if x9 = true then (if x7 = 0 then (if x6 = 4 then (if x0 = (-9223372036854775808) then (if x1 = (-1) then ((jointerlaw01_awake.f k).bind fun t414 => (some t414)) else (some false)) else (some false)) else (some false)) else (some false)) else (some false))
end
def jointerlaw01_ValueDivides.f (k : Nat) (a0 : Int) (a1 : Int) : Option (Bool) := (value_Div.f a0 a1).bind fun bt404 => ((value_Mod.f a0 a1).bind fun bt406 => (if a1 = 0 then (if bt404.2 = 3 then (if bt406.2 = 3 then (if bt404.1 = 0 then (if bt406.1 = 0 then ((jointerlaw01_awake.f k).bind fun t408 => (some t408)) else (some false)) else (some false)) else (some false)) else (some false)) else (if bt406.2 = 0 then (if bt406.1 = 0 then (jointerlaw01_ValueDivides.j0 k a0 a1 bt404.1 bt404.2 bt406.1 false) else (jointerlaw01_ValueDivides.j0 k a0 a1 bt404.1 bt404.2 bt406.1 ((decide (bt406.1 < 0)) != (decide (a0 < 0))))) else (jointerlaw01_ValueDivides.j0 k a0 a1 bt404.1 bt404.2 bt406.1 true))))
theorem jointerlaw01_ValueDivides.mono_l : ∀ k, (∀ y0 y1 y2 y3 y4 y5, LeO (jointerlaw01_ValueDivides.j0 k y0 y1 y2 y3 y4 y5) (jointerlaw01_ValueDivides.j0 (k + 1) y0 y1 y2 y3 y4 y5)) ∧ (∀ y0 y1 y2 y3 y4 y5, LeO (jointerlaw01_ValueDivides.j1 k y0 y1 y2 y3 y4 y5) (jointerlaw01_ValueDivides.j1 (k + 1) y0 y1 y2 y3 y4 y5))
  | 0 => ⟨fun _ _ _ _ _ _ r h => by simp [jointerlaw01_ValueDivides.j0] at h, fun _ _ _ _ _ _ r h => by simp [jointerlaw01_ValueDivides.j1] at h⟩
  | k + 1 => by
    obtain ⟨ih0, ih1⟩ := jointerlaw01_ValueDivides.mono_l k
    refine ⟨?_, ?_⟩
    · intro y0 y1 y2 y3 y4 y5
      unfold jointerlaw01_ValueDivides.j0
      repeat' first
      | (with_reducible exact ih0 _ _ _ _ _ _)
      | (with_reducible exact ih1 _ _ _ _ _ _)
      | (with_reducible exact jointerlaw01_awake.mono _)
      | (with_reducible exact LeO.refl _)
      | (with_reducible exact LeO.none _)
      | (with_reducible refine LeO.ite ?_ ?_)
      | (with_reducible refine LeO.bind ?_ (fun _ => ?_))
      | exact ih0 _ _ _ _ _ _
      | exact ih1 _ _ _ _ _ _
      | exact jointerlaw01_awake.mono _
      | exact LeO.none _
      | refine LeO.ite ?_ ?_
      | refine LeO.bind ?_ (fun _ => ?_)
    · intro y0 y1 y2 y3 y4 y5
      unfold jointerlaw01_ValueDivides.j1
      repeat' first
      | (with_reducible exact ih0 _ _ _ _ _ _)
      | (with_reducible exact ih1 _ _ _ _ _ _)
      | (with_reducible exact jointerlaw01_awake.mono _)
      | (with_reducible exact LeO.refl _)
      | (with_reducible exact LeO.none _)
      | (with_reducible refine LeO.ite ?_ ?_)
      | (with_reducible refine LeO.bind ?_ (fun _ => ?_))
      | exact ih0 _ _ _ _ _ _
      | exact ih1 _ _ _ _ _ _
      | exact jointerlaw01_awake.mono _
      | exact LeO.none _
      | refine LeO.ite ?_ ?_
      | refine LeO.bind ?_ (fun _ => ?_)
theorem jointerlaw01_ValueDivides.mono : ∀ a0 a1 k, LeO (jointerlaw01_ValueDivides.f k a0 a1) (jointerlaw01_ValueDivides.f (k + 1) a0 a1) := by
  intro a0 a1 k
  obtain ⟨ih0, ih1⟩ := jointerlaw01_ValueDivides.mono_l k
  unfold jointerlaw01_ValueDivides.f
  repeat' first
      | (with_reducible exact ih0 _ _ _ _ _ _)
      | (with_reducible exact ih1 _ _ _ _ _ _)
      | (with_reducible exact jointerlaw01_awake.mono _)
      | (with_reducible exact LeO.refl _)
      | (with_reducible exact LeO.none _)
      | (with_reducible refine LeO.ite ?_ ?_)
      | (with_reducible refine LeO.bind ?_ (fun _ => ?_))
      | exact ih0 _ _ _ _ _ _
      | exact ih1 _ _ _ _ _ _
      | exact jointerlaw01_awake.mono _
      | exact LeO.none _
      | refine LeO.ite ?_ ?_
      | refine LeO.bind ?_ (fun _ => ?_)
set_option maxHeartbeats 8000000 in
set_option maxRecDepth 100000 in
theorem jointerlaw01_ValueDivides.calls (k : Nat) (a0 : Int) (a1 : Int) (r : Bool) (w : World) (hr : r = true) (h : jointerlaw01_ValueDivides.f k a0 a1 = some r) (hL : LaidV w) :
    Calls Tryz.prog 11 #[.int .i64 a0, .int .i64 a1] w fun e w' => e = .returned (.bool r) ∧ Below w.heap.size w w' := by
  have HR := Aside0.mk hr
  clear hr
  have HL := Aside0.mk hL
  clear hL
  have HB := Aside0.mk (Below.refl w.heap.size w)
  have H : ((value_Div.f a0 a1).bind fun bt404 => ((value_Mod.f a0 a1).bind fun bt406 => (if a1 = 0 then (if bt404.2 = 3 then (if bt406.2 = 3 then (if bt404.1 = 0 then (if bt406.1 = 0 then ((jointerlaw01_awake.f k).bind fun t408 => (some t408)) else (some false)) else (some false)) else (some false)) else (some false)) else (if bt406.2 = 0 then (if bt406.1 = 0 then (jointerlaw01_ValueDivides.j0 k a0 a1 bt404.1 bt404.2 bt406.1 false) else (jointerlaw01_ValueDivides.j0 k a0 a1 bt404.1 bt404.2 bt406.1 ((decide (bt406.1 < 0)) != (decide (a0 < 0))))) else (jointerlaw01_ValueDivides.j0 k a0 a1 bt404.1 bt404.2 bt406.1 true))))) = some r := h
  clear h
  replace H := Option.bind_eq_some_iff.mp H
  obtain ⟨⟨t404, t405⟩, A30, H⟩ := H
  replace H : ((value_Mod.f a0 a1).bind fun bt406 => (if a1 = 0 then (if t405 = 3 then (if bt406.2 = 3 then (if t404 = 0 then (if bt406.1 = 0 then ((jointerlaw01_awake.f k).bind fun t408 => (some t408)) else (some false)) else (some false)) else (some false)) else (some false)) else (if bt406.2 = 0 then (if bt406.1 = 0 then (jointerlaw01_ValueDivides.j0 k a0 a1 t404 t405 bt406.1 false) else (jointerlaw01_ValueDivides.j0 k a0 a1 t404 t405 bt406.1 ((decide (bt406.1 < 0)) != (decide (a0 < 0))))) else (jointerlaw01_ValueDivides.j0 k a0 a1 t404 t405 bt406.1 true)))) = some r := H
  have A3 := Aside0.mk A30
  clear A30
  replace H := Option.bind_eq_some_iff.mp H
  obtain ⟨⟨t406, t407⟩, A40, H⟩ := H
  replace H : (if a1 = 0 then (if t405 = 3 then (if t407 = 3 then (if t404 = 0 then (if t406 = 0 then ((jointerlaw01_awake.f k).bind fun t408 => (some t408)) else (some false)) else (some false)) else (some false)) else (some false)) else (if t407 = 0 then (if t406 = 0 then (jointerlaw01_ValueDivides.j0 k a0 a1 t404 t405 t406 false) else (jointerlaw01_ValueDivides.j0 k a0 a1 t404 t405 t406 ((decide (t406 < 0)) != (decide (a0 < 0))))) else (jointerlaw01_ValueDivides.j0 k a0 a1 t404 t405 t406 true))) = some r := H
  have A4 := Aside0.mk A40
  clear A40
  by_cases c5 : a1 = 0
  · rw [if_pos c5] at H
    have c5b0 : (a1 == 0) = true := beq_iff_eq.mpr c5
    have c5b1 : (a1 != 0) = false := bne_eq_false_iff_eq.mpr c5
    clear c5
    by_cases c6 : t405 = 3
    · rw [if_pos c6] at H
      have c6b0 : (t405 == 3) = true := beq_iff_eq.mpr c6
      have c6b1 : (t405 != 3) = false := bne_eq_false_iff_eq.mpr c6
      clear c6
      by_cases c7 : t407 = 3
      · rw [if_pos c7] at H
        have c7b0 : (t407 == 3) = true := beq_iff_eq.mpr c7
        have c7b1 : (t407 != 3) = false := bne_eq_false_iff_eq.mpr c7
        clear c7
        by_cases c8 : t404 = 0
        · rw [if_pos c8] at H
          have c8b0 : (t404 == 0) = true := beq_iff_eq.mpr c8
          have c8b1 : (t404 != 0) = false := bne_eq_false_iff_eq.mpr c8
          clear c8
          by_cases c9 : t406 = 0
          · rw [if_pos c9] at H
            have c9b0 : (t406 == 0) = true := beq_iff_eq.mpr c9
            have c9b1 : (t406 != 0) = false := bne_eq_false_iff_eq.mpr c9
            clear c9
            replace H := Option.bind_eq_some_iff.mp H
            obtain ⟨t408, A100, H⟩ := H
            replace H : (some t408) = some r := H
            have A10 := Aside0.mk A100
            clear A100
            obtain rfl := Option.some.inj H
            go_enter Tryz.func11, Tryz.ntmps11
            go_wp2_with (first | ((with_reducible refine gate_callee (f := 32) rfl ?_); refine goesL_ (some 17) rfl rfl Tryz.func32 (by kernel_rfl) rfl #[.int .i64 a0, .int .i64 a1] rfl (by (try simp only [List.map_toArray, List.map_cons, List.map_nil]); first | done | rfl | (simp only [List.length_drop, List.length_take]; rfl)) ?_; (with_reducible refine (value_Div.calls a0 a1 t404 t405 _ A3.out).mono ?_); rintro e w' ⟨rfl, ⟨nd, rfl⟩⟩; refine ⟨_, rfl, ?_⟩) | ((with_reducible refine gate_callee (f := 34) rfl ?_); refine goesL_ (some 23) rfl rfl Tryz.func34 (by kernel_rfl) rfl #[.int .i64 a0, .int .i64 a1] rfl (by (try simp only [List.map_toArray, List.map_cons, List.map_nil]); first | done | rfl | (simp only [List.length_drop, List.length_take]; rfl)) ?_; (with_reducible refine (value_Mod.calls a0 a1 t406 t407 _ A4.out).mono ?_); rintro e w' ⟨rfl, ⟨nd, rfl⟩⟩; refine ⟨_, rfl, ?_⟩) | (go_at_call 14; (with_reducible refine (jointerlaw01_awake.calls k  t408 _ A10.out (LaidV.below HL (by repeat (first | (with_reducible first | exact HB.out | apply below_alloc | apply pw_below_drewN | apply below_drew1) | exact HB.out)))).mono ?_); rintro e w11 ⟨rfl, hb⟩; have n0_ := Aside0.mk (below_step (by repeat (first | (with_reducible first | exact HB.out | apply below_alloc | apply pw_below_drewN | apply below_drew1) | exact HB.out)) hb); clear HB; have HB := n0_; clear n0_; (try clear hb); (try clear hb2); (try clear hk); (try clear hi)))
            go_ret
            exact ⟨by first | rfl | (simp [errW_none, errW_some] <;> rfl) | (simp [*, errW_none, errW_some] <;> rfl), by repeat (first | (with_reducible first | exact HB.out | apply below_alloc | apply pw_below_drewN | apply below_drew1) | exact HB.out)⟩
          · rw [if_neg c9] at H
            have c9b0 : (t406 == 0) = false := beq_eq_false_iff_ne.mpr c9
            have c9b1 : (t406 != 0) = true := bne_iff_ne.mpr c9
            obtain rfl := Option.some.inj H
            exact absurd HR.out (by decide) -- leaf 2
        · rw [if_neg c8] at H
          have c8b0 : (t404 == 0) = false := beq_eq_false_iff_ne.mpr c8
          have c8b1 : (t404 != 0) = true := bne_iff_ne.mpr c8
          obtain rfl := Option.some.inj H
          exact absurd HR.out (by decide) -- leaf 3
      · rw [if_neg c7] at H
        have c7b0 : (t407 == 3) = false := beq_eq_false_iff_ne.mpr c7
        have c7b1 : (t407 != 3) = true := bne_iff_ne.mpr c7
        obtain rfl := Option.some.inj H
        exact absurd HR.out (by decide) -- leaf 4
    · rw [if_neg c6] at H
      have c6b0 : (t405 == 3) = false := beq_eq_false_iff_ne.mpr c6
      have c6b1 : (t405 != 3) = true := bne_iff_ne.mpr c6
      obtain rfl := Option.some.inj H
      exact absurd HR.out (by decide) -- leaf 5
  · rw [if_neg c5] at H
    have c5b0 : (a1 == 0) = false := beq_eq_false_iff_ne.mpr c5
    have c5b1 : (a1 != 0) = true := bne_iff_ne.mpr c5
    have HC12 := Aside0.mk H
    clear H
    go_enter Tryz.func11, Tryz.ntmps11
    go_upto_region 5 with (first | ((with_reducible refine gate_callee (f := 32) rfl ?_); refine goesL_ (some 17) rfl rfl Tryz.func32 (by kernel_rfl) rfl #[.int .i64 a0, .int .i64 a1] rfl (by (try simp only [List.map_toArray, List.map_cons, List.map_nil]); first | done | rfl | (simp only [List.length_drop, List.length_take]; rfl)) ?_; (with_reducible refine (value_Div.calls a0 a1 t404 t405 _ A3.out).mono ?_); rintro e w' ⟨rfl, ⟨nd, rfl⟩⟩; refine ⟨_, rfl, ?_⟩) | ((with_reducible refine gate_callee (f := 34) rfl ?_); refine goesL_ (some 23) rfl rfl Tryz.func34 (by kernel_rfl) rfl #[.int .i64 a0, .int .i64 a1] rfl (by (try simp only [List.map_toArray, List.map_cons, List.map_nil]); first | done | rfl | (simp only [List.length_drop, List.length_take]; rfl)) ?_; (with_reducible refine (value_Mod.calls a0 a1 t406 t407 _ A4.out).mono ?_); rintro e w' ⟨rfl, ⟨nd, rfl⟩⟩; refine ⟨_, rfl, ?_⟩))
    (try simp only [Act.put, List.setIfInBounds_toArray, List.set_cons_zero, List.set_cons_succ])
    go_cut [57] (fun v57 wc => ∃ (kq : Nat) (x57_11 : Bool), v57 = .bool x57_11 ∧ Aside0 (jointerlaw01_ValueDivides.j0 kq a0 a1 t404 t405 t406 x57_11 = some r) ∧ Aside0 (kq ≤ k) ∧ Aside0 (Below w.heap.size w wc))
    case first =>
      have H := HC12.out
      clear HC12
      by_cases c13 : t407 = 0
      · rw [if_pos c13] at H
        have c13b0 : (t407 == 0) = true := beq_iff_eq.mpr c13
        have c13b1 : (t407 != 0) = false := bne_eq_false_iff_eq.mpr c13
        clear c13
        (first | rw [c13b0] | (simp only [i64_w, i32_w]; rw [c13b0]) | skip)
        by_cases c14 : t406 = 0
        · rw [if_pos c14] at H
          have c14b0 : (t406 == 0) = true := beq_iff_eq.mpr c14
          have c14b1 : (t406 != 0) = false := bne_eq_false_iff_eq.mpr c14
          clear c14
          have H' := Aside0.mk H
          clear H
          go_wp2
          go_meet
          case rel => exact ⟨_, (false), (by first | rfl | (simp; done) | (simp [*]; done)), H', ⟨by first | omega | exact Nat.le_refl _⟩, ⟨by repeat (first | (with_reducible first | exact HB.out | apply below_alloc | apply pw_below_drewN | apply below_drew1) | exact HB.out)⟩⟩
        · rw [if_neg c14] at H
          have c14b0 : (t406 == 0) = false := beq_eq_false_iff_ne.mpr c14
          have c14b1 : (t406 != 0) = true := bne_iff_ne.mpr c14
          have H' := Aside0.mk H
          clear H
          go_wp2
          go_meet
          case rel => exact ⟨_, (((decide (t406 < 0)) != (decide (a0 < 0)))), (by first | rfl | (simp; done) | (simp [*]; done)), H', ⟨by first | omega | exact Nat.le_refl _⟩, ⟨by repeat (first | (with_reducible first | exact HB.out | apply below_alloc | apply pw_below_drewN | apply below_drew1) | exact HB.out)⟩⟩
      · rw [if_neg c13] at H
        have c13b0 : (t407 == 0) = false := beq_eq_false_iff_ne.mpr c13
        have c13b1 : (t407 != 0) = true := bne_iff_ne.mpr c13
        (first | rw [c13b0] | (simp only [i64_w, i32_w]; rw [c13b0]) | skip)
        have H' := Aside0.mk H
        clear H
        go_wp2
        go_meet
        case rel => exact ⟨_, (true), (by first | rfl | (simp; done) | (simp [*]; done)), H', ⟨by first | omega | exact Nat.le_refl _⟩, ⟨by repeat (first | (with_reducible first | exact HB.out | apply below_alloc | apply pw_below_drewN | apply below_drew1) | exact HB.out)⟩⟩
    case rest =>
      clear HC12
      try clear c1
      try clear p2
      try clear c3
      try clear c5
      try clear c5b0
      try clear c5b1
      try clear c6
      try clear c6b0
      try clear c6b1
      try clear c7
      try clear c7b0
      try clear c7b1
      try clear c8
      try clear c8b0
      try clear c8b1
      try clear c9
      try clear c9b0
      try clear c9b1
      try clear c11
      try clear c13
      try clear c13b0
      try clear c13b1
      try clear c14
      try clear c14b0
      try clear c14b1
      obtain ⟨kq, x57_11, rfl, HA, HJ11, HB⟩ := hcut
      cases kq with
      | zero => exact absurd HA.out (by simp [jointerlaw01_ValueDivides.j0])
      | succ kj11 =>
        have H := HA.out
        clear HA
        simp only [jointerlaw01_ValueDivides.j0] at H
        by_cases c15 : x57_11 = true
        · subst c15
          have H1 : (some false) = some r := by rw [if_pos rfl] at H; exact H
          clear H
          have H := H1
          clear H1
          obtain rfl := Option.some.inj H
          exact absurd HR.out (by decide) -- leaf 6
        · replace c15 := Bool.eq_false_iff.mpr c15
          subst c15
          have H1 : (if t406 = 0 then (jointerlaw01_ValueDivides.j1 kj11 a0 a1 t404 t405 t406 true) else (if t406 > 0 then (if a1 > 0 then (if t406 < a1 then (jointerlaw01_ValueDivides.j1 kj11 a0 a1 t404 t405 t406 true) else (if a1 < 0 then (if (wrap64 (-t406)) > a1 then (jointerlaw01_ValueDivides.j1 kj11 a0 a1 t404 t405 t406 true) else (if t406 < 0 then (if (wrap64 (-t406)) < a1 then (jointerlaw01_ValueDivides.j1 kj11 a0 a1 t404 t405 t406 true) else (jointerlaw01_ValueDivides.j1 kj11 a0 a1 t404 t405 t406 (decide (t406 > a1)))) else (jointerlaw01_ValueDivides.j1 kj11 a0 a1 t404 t405 t406 false))) else (if t406 < 0 then (if (wrap64 (-t406)) < a1 then (jointerlaw01_ValueDivides.j1 kj11 a0 a1 t404 t405 t406 true) else (jointerlaw01_ValueDivides.j1 kj11 a0 a1 t404 t405 t406 false)) else (jointerlaw01_ValueDivides.j1 kj11 a0 a1 t404 t405 t406 false)))) else (if a1 < 0 then (if (wrap64 (-t406)) > a1 then (jointerlaw01_ValueDivides.j1 kj11 a0 a1 t404 t405 t406 true) else (if t406 < 0 then (jointerlaw01_ValueDivides.j1 kj11 a0 a1 t404 t405 t406 (decide (t406 > a1))) else (jointerlaw01_ValueDivides.j1 kj11 a0 a1 t404 t405 t406 false))) else (if t406 < 0 then (jointerlaw01_ValueDivides.j1 kj11 a0 a1 t404 t405 t406 false) else (jointerlaw01_ValueDivides.j1 kj11 a0 a1 t404 t405 t406 false)))) else (if t406 < 0 then (if a1 > 0 then (if (wrap64 (-t406)) < a1 then (jointerlaw01_ValueDivides.j1 kj11 a0 a1 t404 t405 t406 true) else (if a1 < 0 then (jointerlaw01_ValueDivides.j1 kj11 a0 a1 t404 t405 t406 (decide (t406 > a1))) else (jointerlaw01_ValueDivides.j1 kj11 a0 a1 t404 t405 t406 false))) else (if a1 < 0 then (jointerlaw01_ValueDivides.j1 kj11 a0 a1 t404 t405 t406 (decide (t406 > a1))) else (jointerlaw01_ValueDivides.j1 kj11 a0 a1 t404 t405 t406 false))) else (jointerlaw01_ValueDivides.j1 kj11 a0 a1 t404 t405 t406 false)))) = some r := by rw [if_neg (show ¬ (false = true) by decide)] at H; exact H
          clear H
          have H := H1
          clear H1
          have HC16 := Aside0.mk H
          clear H
          go_upto_region 7 with (fail)
          go_cut [9] (fun v9 wc => ∃ (kq : Nat) (x9_15 : Bool), v9 = .bool x9_15 ∧ Aside0 (jointerlaw01_ValueDivides.j1 kq a0 a1 t404 t405 t406 x9_15 = some r) ∧ Aside0 (kq ≤ kj11) ∧ Aside0 (Below w.heap.size w wc))
          case first =>
            have H := HC16.out
            clear HC16
            by_cases c17 : t406 = 0
            · rw [if_pos c17] at H
              have c17b0 : (t406 == 0) = true := beq_iff_eq.mpr c17
              have c17b1 : (t406 != 0) = false := bne_eq_false_iff_eq.mpr c17
              clear c17
              (first | rw [c17b0] | (simp only [i64_w, i32_w]; rw [c17b0]) | skip)
              have H' := Aside0.mk H
              clear H
              go_wp2
              go_meet
              case rel => exact ⟨_, (true), (by first | rfl | (simp; done) | (simp [*]; done)), H', ⟨by have := HJ11.out; first | omega | exact Nat.le_refl _⟩, ⟨by repeat (first | (with_reducible first | exact HB.out | apply below_alloc | apply pw_below_drewN | apply below_drew1) | exact HB.out)⟩⟩
            · rw [if_neg c17] at H
              have c17b0 : (t406 == 0) = false := beq_eq_false_iff_ne.mpr c17
              have c17b1 : (t406 != 0) = true := bne_iff_ne.mpr c17
              (first | rw [c17b0] | (simp only [i64_w, i32_w]; rw [c17b0]) | skip)
              by_cases c18 : t406 > 0
              · rw [if_pos c18] at H
                have c18b0 : decide (0 < t406) = true := decide_eq_true c18
                clear c18
                by_cases c19 : a1 > 0
                · rw [if_pos c19] at H
                  have c19b0 : decide (0 < a1) = true := decide_eq_true c19
                  clear c19
                  by_cases c20 : t406 < a1
                  · rw [if_pos c20] at H
                    have c20b0 : decide (t406 < a1) = true := decide_eq_true c20
                    clear c20
                    have H' := Aside0.mk H
                    clear H
                    go_wp2
                    go_meet
                    case rel => exact ⟨_, (true), (by first | rfl | (simp; done) | (simp [*]; done)), H', ⟨by have := HJ11.out; first | omega | exact Nat.le_refl _⟩, ⟨by repeat (first | (with_reducible first | exact HB.out | apply below_alloc | apply pw_below_drewN | apply below_drew1) | exact HB.out)⟩⟩
                  · rw [if_neg c20] at H
                    have c20b0 : decide (t406 < a1) = false := decide_eq_false c20
                    clear c20
                    by_cases c21 : a1 < 0
                    · rw [if_pos c21] at H
                      have c21b0 : decide (a1 < 0) = true := decide_eq_true c21
                      clear c21
                      by_cases c22 : (wrap64 (-t406)) > a1
                      · rw [if_pos c22] at H
                        have c22b0 : decide (a1 < (wrap64 (-t406))) = true := decide_eq_true c22
                        clear c22
                        have H' := Aside0.mk H
                        clear H
                        go_wp2
                        go_meet
                        case rel => exact ⟨_, (true), (by first | rfl | (simp; done) | (simp [*]; done)), H', ⟨by have := HJ11.out; first | omega | exact Nat.le_refl _⟩, ⟨by repeat (first | (with_reducible first | exact HB.out | apply below_alloc | apply pw_below_drewN | apply below_drew1) | exact HB.out)⟩⟩
                      · rw [if_neg c22] at H
                        have c22b0 : decide (a1 < (wrap64 (-t406))) = false := decide_eq_false c22
                        clear c22
                        by_cases c23 : t406 < 0
                        · rw [if_pos c23] at H
                          have c23b0 : decide (t406 < 0) = true := decide_eq_true c23
                          clear c23
                          by_cases c24 : (wrap64 (-t406)) < a1
                          · rw [if_pos c24] at H
                            have c24b0 : decide ((wrap64 (-t406)) < a1) = true := decide_eq_true c24
                            clear c24
                            have H' := Aside0.mk H
                            clear H
                            go_wp2
                            go_meet
                            case rel => exact ⟨_, (true), (by first | rfl | (simp; done) | (simp [*]; done)), H', ⟨by have := HJ11.out; first | omega | exact Nat.le_refl _⟩, ⟨by repeat (first | (with_reducible first | exact HB.out | apply below_alloc | apply pw_below_drewN | apply below_drew1) | exact HB.out)⟩⟩
                          · rw [if_neg c24] at H
                            have c24b0 : decide ((wrap64 (-t406)) < a1) = false := decide_eq_false c24
                            clear c24
                            have H' := Aside0.mk H
                            clear H
                            go_wp2
                            go_meet
                            case rel => exact ⟨_, (decide (t406 > a1)), (by first | rfl | (simp; done) | (simp [*]; done)), H', ⟨by have := HJ11.out; first | omega | exact Nat.le_refl _⟩, ⟨by repeat (first | (with_reducible first | exact HB.out | apply below_alloc | apply pw_below_drewN | apply below_drew1) | exact HB.out)⟩⟩
                        · rw [if_neg c23] at H
                          have c23b0 : decide (t406 < 0) = false := decide_eq_false c23
                          clear c23
                          have H' := Aside0.mk H
                          clear H
                          go_wp2
                          go_meet
                          case rel => exact ⟨_, (false), (by first | rfl | (simp; done) | (simp [*]; done)), H', ⟨by have := HJ11.out; first | omega | exact Nat.le_refl _⟩, ⟨by repeat (first | (with_reducible first | exact HB.out | apply below_alloc | apply pw_below_drewN | apply below_drew1) | exact HB.out)⟩⟩
                    · rw [if_neg c21] at H
                      have c21b0 : decide (a1 < 0) = false := decide_eq_false c21
                      clear c21
                      by_cases c25 : t406 < 0
                      · rw [if_pos c25] at H
                        have c25b0 : decide (t406 < 0) = true := decide_eq_true c25
                        clear c25
                        by_cases c26 : (wrap64 (-t406)) < a1
                        · rw [if_pos c26] at H
                          have c26b0 : decide ((wrap64 (-t406)) < a1) = true := decide_eq_true c26
                          clear c26
                          have H' := Aside0.mk H
                          clear H
                          go_wp2
                          go_meet
                          case rel => exact ⟨_, (true), (by first | rfl | (simp; done) | (simp [*]; done)), H', ⟨by have := HJ11.out; first | omega | exact Nat.le_refl _⟩, ⟨by repeat (first | (with_reducible first | exact HB.out | apply below_alloc | apply pw_below_drewN | apply below_drew1) | exact HB.out)⟩⟩
                        · rw [if_neg c26] at H
                          have c26b0 : decide ((wrap64 (-t406)) < a1) = false := decide_eq_false c26
                          clear c26
                          have H' := Aside0.mk H
                          clear H
                          go_wp2
                          go_meet
                          case rel => exact ⟨_, (false), (by first | rfl | (simp; done) | (simp [*]; done)), H', ⟨by have := HJ11.out; first | omega | exact Nat.le_refl _⟩, ⟨by repeat (first | (with_reducible first | exact HB.out | apply below_alloc | apply pw_below_drewN | apply below_drew1) | exact HB.out)⟩⟩
                      · rw [if_neg c25] at H
                        have c25b0 : decide (t406 < 0) = false := decide_eq_false c25
                        clear c25
                        have H' := Aside0.mk H
                        clear H
                        go_wp2
                        go_meet
                        case rel => exact ⟨_, (false), (by first | rfl | (simp; done) | (simp [*]; done)), H', ⟨by have := HJ11.out; first | omega | exact Nat.le_refl _⟩, ⟨by repeat (first | (with_reducible first | exact HB.out | apply below_alloc | apply pw_below_drewN | apply below_drew1) | exact HB.out)⟩⟩
                · rw [if_neg c19] at H
                  have c19b0 : decide (0 < a1) = false := decide_eq_false c19
                  clear c19
                  by_cases c27 : a1 < 0
                  · rw [if_pos c27] at H
                    have c27b0 : decide (a1 < 0) = true := decide_eq_true c27
                    clear c27
                    by_cases c28 : (wrap64 (-t406)) > a1
                    · rw [if_pos c28] at H
                      have c28b0 : decide (a1 < (wrap64 (-t406))) = true := decide_eq_true c28
                      clear c28
                      have H' := Aside0.mk H
                      clear H
                      go_wp2
                      go_meet
                      case rel => exact ⟨_, (true), (by first | rfl | (simp; done) | (simp [*]; done)), H', ⟨by have := HJ11.out; first | omega | exact Nat.le_refl _⟩, ⟨by repeat (first | (with_reducible first | exact HB.out | apply below_alloc | apply pw_below_drewN | apply below_drew1) | exact HB.out)⟩⟩
                    · rw [if_neg c28] at H
                      have c28b0 : decide (a1 < (wrap64 (-t406))) = false := decide_eq_false c28
                      clear c28
                      by_cases c29 : t406 < 0
                      · rw [if_pos c29] at H
                        have c29b0 : decide (t406 < 0) = true := decide_eq_true c29
                        clear c29
                        have H' := Aside0.mk H
                        clear H
                        go_wp2
                        go_meet
                        case rel => exact ⟨_, (decide (t406 > a1)), (by first | rfl | (simp; done) | (simp [*]; done)), H', ⟨by have := HJ11.out; first | omega | exact Nat.le_refl _⟩, ⟨by repeat (first | (with_reducible first | exact HB.out | apply below_alloc | apply pw_below_drewN | apply below_drew1) | exact HB.out)⟩⟩
                      · rw [if_neg c29] at H
                        have c29b0 : decide (t406 < 0) = false := decide_eq_false c29
                        clear c29
                        have H' := Aside0.mk H
                        clear H
                        go_wp2
                        go_meet
                        case rel => exact ⟨_, (false), (by first | rfl | (simp; done) | (simp [*]; done)), H', ⟨by have := HJ11.out; first | omega | exact Nat.le_refl _⟩, ⟨by repeat (first | (with_reducible first | exact HB.out | apply below_alloc | apply pw_below_drewN | apply below_drew1) | exact HB.out)⟩⟩
                  · rw [if_neg c27] at H
                    have c27b0 : decide (a1 < 0) = false := decide_eq_false c27
                    clear c27
                    by_cases c30 : t406 < 0
                    · rw [if_pos c30] at H
                      have c30b0 : decide (t406 < 0) = true := decide_eq_true c30
                      clear c30
                      have H' := Aside0.mk H
                      clear H
                      go_wp2
                      go_meet
                      case rel => exact ⟨_, (false), (by first | rfl | (simp; done) | (simp [*]; done)), H', ⟨by have := HJ11.out; first | omega | exact Nat.le_refl _⟩, ⟨by repeat (first | (with_reducible first | exact HB.out | apply below_alloc | apply pw_below_drewN | apply below_drew1) | exact HB.out)⟩⟩
                    · rw [if_neg c30] at H
                      have c30b0 : decide (t406 < 0) = false := decide_eq_false c30
                      clear c30
                      have H' := Aside0.mk H
                      clear H
                      go_wp2
                      go_meet
                      case rel => exact ⟨_, (false), (by first | rfl | (simp; done) | (simp [*]; done)), H', ⟨by have := HJ11.out; first | omega | exact Nat.le_refl _⟩, ⟨by repeat (first | (with_reducible first | exact HB.out | apply below_alloc | apply pw_below_drewN | apply below_drew1) | exact HB.out)⟩⟩
              · rw [if_neg c18] at H
                have c18b0 : decide (0 < t406) = false := decide_eq_false c18
                clear c18
                by_cases c31 : t406 < 0
                · rw [if_pos c31] at H
                  have c31b0 : decide (t406 < 0) = true := decide_eq_true c31
                  clear c31
                  by_cases c32 : a1 > 0
                  · rw [if_pos c32] at H
                    have c32b0 : decide (0 < a1) = true := decide_eq_true c32
                    clear c32
                    by_cases c33 : (wrap64 (-t406)) < a1
                    · rw [if_pos c33] at H
                      have c33b0 : decide ((wrap64 (-t406)) < a1) = true := decide_eq_true c33
                      clear c33
                      have H' := Aside0.mk H
                      clear H
                      go_wp2
                      go_meet
                      case rel => exact ⟨_, (true), (by first | rfl | (simp; done) | (simp [*]; done)), H', ⟨by have := HJ11.out; first | omega | exact Nat.le_refl _⟩, ⟨by repeat (first | (with_reducible first | exact HB.out | apply below_alloc | apply pw_below_drewN | apply below_drew1) | exact HB.out)⟩⟩
                    · rw [if_neg c33] at H
                      have c33b0 : decide ((wrap64 (-t406)) < a1) = false := decide_eq_false c33
                      clear c33
                      by_cases c34 : a1 < 0
                      · rw [if_pos c34] at H
                        have c34b0 : decide (a1 < 0) = true := decide_eq_true c34
                        clear c34
                        have H' := Aside0.mk H
                        clear H
                        go_wp2
                        go_meet
                        case rel => exact ⟨_, (decide (t406 > a1)), (by first | rfl | (simp; done) | (simp [*]; done)), H', ⟨by have := HJ11.out; first | omega | exact Nat.le_refl _⟩, ⟨by repeat (first | (with_reducible first | exact HB.out | apply below_alloc | apply pw_below_drewN | apply below_drew1) | exact HB.out)⟩⟩
                      · rw [if_neg c34] at H
                        have c34b0 : decide (a1 < 0) = false := decide_eq_false c34
                        clear c34
                        have H' := Aside0.mk H
                        clear H
                        go_wp2
                        go_meet
                        case rel => exact ⟨_, (false), (by first | rfl | (simp; done) | (simp [*]; done)), H', ⟨by have := HJ11.out; first | omega | exact Nat.le_refl _⟩, ⟨by repeat (first | (with_reducible first | exact HB.out | apply below_alloc | apply pw_below_drewN | apply below_drew1) | exact HB.out)⟩⟩
                  · rw [if_neg c32] at H
                    have c32b0 : decide (0 < a1) = false := decide_eq_false c32
                    clear c32
                    by_cases c35 : a1 < 0
                    · rw [if_pos c35] at H
                      have c35b0 : decide (a1 < 0) = true := decide_eq_true c35
                      clear c35
                      have H' := Aside0.mk H
                      clear H
                      go_wp2
                      go_meet
                      case rel => exact ⟨_, (decide (t406 > a1)), (by first | rfl | (simp; done) | (simp [*]; done)), H', ⟨by have := HJ11.out; first | omega | exact Nat.le_refl _⟩, ⟨by repeat (first | (with_reducible first | exact HB.out | apply below_alloc | apply pw_below_drewN | apply below_drew1) | exact HB.out)⟩⟩
                    · rw [if_neg c35] at H
                      have c35b0 : decide (a1 < 0) = false := decide_eq_false c35
                      clear c35
                      have H' := Aside0.mk H
                      clear H
                      go_wp2
                      go_meet
                      case rel => exact ⟨_, (false), (by first | rfl | (simp; done) | (simp [*]; done)), H', ⟨by have := HJ11.out; first | omega | exact Nat.le_refl _⟩, ⟨by repeat (first | (with_reducible first | exact HB.out | apply below_alloc | apply pw_below_drewN | apply below_drew1) | exact HB.out)⟩⟩
                · rw [if_neg c31] at H
                  have c31b0 : decide (t406 < 0) = false := decide_eq_false c31
                  clear c31
                  have H' := Aside0.mk H
                  clear H
                  go_wp2
                  go_meet
                  case rel => exact ⟨_, (false), (by first | rfl | (simp; done) | (simp [*]; done)), H', ⟨by have := HJ11.out; first | omega | exact Nat.le_refl _⟩, ⟨by repeat (first | (with_reducible first | exact HB.out | apply below_alloc | apply pw_below_drewN | apply below_drew1) | exact HB.out)⟩⟩
          case rest =>
            clear HC16
            try clear c1
            try clear c2
            try clear p2
            try clear c3
            try clear c5
            try clear c5b0
            try clear c5b1
            try clear c6
            try clear c6b0
            try clear c6b1
            try clear p6
            try clear c7
            try clear c7b0
            try clear c7b1
            try clear c8
            try clear c8b0
            try clear c8b1
            try clear c9
            try clear c9b0
            try clear c9b1
            try clear c11
            try clear c13
            try clear c13b0
            try clear c13b1
            try clear c14
            try clear c14b0
            try clear c14b1
            try clear c15
            try clear c17
            try clear c17b0
            try clear c17b1
            try clear c18
            try clear c18b0
            try clear c19
            try clear c19b0
            try clear c20
            try clear c20b0
            try clear c21
            try clear c21b0
            try clear c22
            try clear c22b0
            try clear c23
            try clear c23b0
            try clear c24
            try clear c24b0
            try clear c25
            try clear c25b0
            try clear c26
            try clear c26b0
            try clear c27
            try clear c27b0
            try clear c28
            try clear c28b0
            try clear c29
            try clear c29b0
            try clear c30
            try clear c30b0
            try clear c31
            try clear c31b0
            try clear c32
            try clear c32b0
            try clear c33
            try clear c33b0
            try clear c34
            try clear c34b0
            try clear c35
            try clear c35b0
            try clear p2
            obtain ⟨kq, x9_15, rfl, HA, HJ15, HB⟩ := hcut
            cases kq with
            | zero => exact absurd HA.out (by simp [jointerlaw01_ValueDivides.j1])
            | succ kj15 =>
              have H := HA.out
              clear HA
              simp only [jointerlaw01_ValueDivides.j1] at H
              by_cases c36 : t405 = 0
              · rw [if_pos c36] at H
                have c36b0 : (t405 == 0) = true := beq_iff_eq.mpr c36
                have c36b1 : (t405 != 0) = false := bne_eq_false_iff_eq.mpr c36
                clear c36
                replace H := Option.bind_eq_some_iff.mp H
                obtain ⟨⟨t409, t410⟩, A370, H⟩ := H
                replace H : ((value_Add.f t409 t406).bind fun bt411 => (if x9_15 = true then (if t410 = 0 then (if bt411.2 = 0 then (if bt411.1 = a0 then ((jointerlaw01_awake.f kj15).bind fun t413 => (some t413)) else (some false)) else (some false)) else (some false)) else (some false))) = some r := H
                have A37 := Aside0.mk A370
                clear A370
                replace H := Option.bind_eq_some_iff.mp H
                obtain ⟨⟨t411, t412⟩, A380, H⟩ := H
                replace H : (if x9_15 = true then (if t410 = 0 then (if t412 = 0 then (if t411 = a0 then ((jointerlaw01_awake.f kj15).bind fun t413 => (some t413)) else (some false)) else (some false)) else (some false)) else (some false)) = some r := H
                have A38 := Aside0.mk A380
                clear A380
                by_cases c39 : x9_15 = true
                · subst c39
                  have H1 : (if t410 = 0 then (if t412 = 0 then (if t411 = a0 then ((jointerlaw01_awake.f kj15).bind fun t413 => (some t413)) else (some false)) else (some false)) else (some false)) = some r := by rw [if_pos rfl] at H; exact H
                  clear H
                  have H := H1
                  clear H1
                  by_cases c40 : t410 = 0
                  · rw [if_pos c40] at H
                    have c40b0 : (t410 == 0) = true := beq_iff_eq.mpr c40
                    have c40b1 : (t410 != 0) = false := bne_eq_false_iff_eq.mpr c40
                    clear c40
                    by_cases c41 : t412 = 0
                    · rw [if_pos c41] at H
                      have c41b0 : (t412 == 0) = true := beq_iff_eq.mpr c41
                      have c41b1 : (t412 != 0) = false := bne_eq_false_iff_eq.mpr c41
                      clear c41
                      by_cases c42 : t411 = a0
                      · rw [if_pos c42] at H
                        have c42b0 : (t411 == a0) = true := beq_iff_eq.mpr c42
                        have c42b1 : (t411 != a0) = false := bne_eq_false_iff_eq.mpr c42
                        clear c42
                        replace H := Option.bind_eq_some_iff.mp H
                        obtain ⟨t413, A430, H⟩ := H
                        replace H : (some t413) = some r := H
                        have A43 := Aside0.mk A430
                        clear A430
                        obtain rfl := Option.some.inj H
                        go_wp2_with (first | ((with_reducible refine gate_callee (f := 30) rfl ?_); refine goesL_ (some 131) rfl rfl Tryz.func30 (by kernel_rfl) rfl #[.int .i64 t404, .int .i64 a1] rfl (by (try simp only [List.map_toArray, List.map_cons, List.map_nil]); first | done | rfl | (simp only [List.length_drop, List.length_take]; rfl)) ?_; (with_reducible refine (value_Mul.calls t404 a1 t409 t410 _ A37.out).mono ?_); rintro e w' ⟨rfl, ⟨nd, rfl⟩⟩; refine ⟨_, rfl, ?_⟩) | ((with_reducible refine gate_callee (f := 26) rfl ?_); refine goesL_ (some 137) rfl rfl Tryz.func26 (by kernel_rfl) rfl #[.int .i64 t409, .int .i64 t406] rfl (by (try simp only [List.map_toArray, List.map_cons, List.map_nil]); first | done | rfl | (simp only [List.length_drop, List.length_take]; rfl)) ?_; (with_reducible refine (value_Add.calls t409 t406 t411 t412 _ A38.out).mono ?_); rintro e w' ⟨rfl, ⟨nd, rfl⟩⟩; refine ⟨_, rfl, ?_⟩) | (go_at_call 14; (with_reducible refine (jointerlaw01_awake.calls kj15  t413 _ A43.out (LaidV.below HL (by repeat (first | (with_reducible first | exact HB.out | apply below_alloc | apply pw_below_drewN | apply below_drew1) | exact HB.out)))).mono ?_); rintro e w44 ⟨rfl, hb⟩; have n0_ := Aside0.mk (below_step (by repeat (first | (with_reducible first | exact HB.out | apply below_alloc | apply pw_below_drewN | apply below_drew1) | exact HB.out)) hb); clear HB; have HB := n0_; clear n0_; (try clear hb); (try clear hb2); (try clear hk); (try clear hi)))
                        go_ret
                        exact ⟨by first | rfl | (simp [errW_none, errW_some] <;> rfl) | (simp [*, errW_none, errW_some] <;> rfl), by repeat (first | (with_reducible first | exact HB.out | apply below_alloc | apply pw_below_drewN | apply below_drew1) | exact HB.out)⟩
                      · rw [if_neg c42] at H
                        have c42b0 : (t411 == a0) = false := beq_eq_false_iff_ne.mpr c42
                        have c42b1 : (t411 != a0) = true := bne_iff_ne.mpr c42
                        obtain rfl := Option.some.inj H
                        exact absurd HR.out (by decide) -- leaf 8
                    · rw [if_neg c41] at H
                      have c41b0 : (t412 == 0) = false := beq_eq_false_iff_ne.mpr c41
                      have c41b1 : (t412 != 0) = true := bne_iff_ne.mpr c41
                      obtain rfl := Option.some.inj H
                      exact absurd HR.out (by decide) -- leaf 9
                  · rw [if_neg c40] at H
                    have c40b0 : (t410 == 0) = false := beq_eq_false_iff_ne.mpr c40
                    have c40b1 : (t410 != 0) = true := bne_iff_ne.mpr c40
                    obtain rfl := Option.some.inj H
                    exact absurd HR.out (by decide) -- leaf 10
                · replace c39 := Bool.eq_false_iff.mpr c39
                  subst c39
                  have H1 : (some false) = some r := by rw [if_neg (show ¬ (false = true) by decide)] at H; exact H
                  clear H
                  have H := H1
                  clear H1
                  obtain rfl := Option.some.inj H
                  exact absurd HR.out (by decide) -- leaf 11
              · rw [if_neg c36] at H
                have c36b0 : (t405 == 0) = false := beq_eq_false_iff_ne.mpr c36
                have c36b1 : (t405 != 0) = true := bne_iff_ne.mpr c36
                by_cases c45 : x9_15 = true
                · subst c45
                  have H1 : (if t406 = 0 then (if t405 = 4 then (if a0 = (-9223372036854775808) then (if a1 = (-1) then ((jointerlaw01_awake.f kj15).bind fun t414 => (some t414)) else (some false)) else (some false)) else (some false)) else (some false)) = some r := by rw [if_pos rfl] at H; exact H
                  clear H
                  have H := H1
                  clear H1
                  by_cases c46 : t406 = 0
                  · rw [if_pos c46] at H
                    have c46b0 : (t406 == 0) = true := beq_iff_eq.mpr c46
                    have c46b1 : (t406 != 0) = false := bne_eq_false_iff_eq.mpr c46
                    clear c46
                    by_cases c47 : t405 = 4
                    · rw [if_pos c47] at H
                      have c47b0 : (t405 == 4) = true := beq_iff_eq.mpr c47
                      have c47b1 : (t405 != 4) = false := bne_eq_false_iff_eq.mpr c47
                      clear c47
                      by_cases c48 : a0 = (-9223372036854775808)
                      · rw [if_pos c48] at H
                        have c48b0 : (a0 == (-9223372036854775808)) = true := beq_iff_eq.mpr c48
                        have c48b1 : (a0 != (-9223372036854775808)) = false := bne_eq_false_iff_eq.mpr c48
                        clear c48
                        by_cases c49 : a1 = (-1)
                        · rw [if_pos c49] at H
                          have c49b0 : (a1 == (-1)) = true := beq_iff_eq.mpr c49
                          have c49b1 : (a1 != (-1)) = false := bne_eq_false_iff_eq.mpr c49
                          clear c49
                          replace H := Option.bind_eq_some_iff.mp H
                          obtain ⟨t414, A500, H⟩ := H
                          replace H : (some t414) = some r := H
                          have A50 := Aside0.mk A500
                          clear A500
                          obtain rfl := Option.some.inj H
                          go_wp2_with (first | (go_at_call 14; (with_reducible refine (jointerlaw01_awake.calls kj15  t414 _ A50.out (LaidV.below HL (by repeat (first | (with_reducible first | exact HB.out | apply below_alloc | apply pw_below_drewN | apply below_drew1) | exact HB.out)))).mono ?_); rintro e w51 ⟨rfl, hb⟩; have n0_ := Aside0.mk (below_step (by repeat (first | (with_reducible first | exact HB.out | apply below_alloc | apply pw_below_drewN | apply below_drew1) | exact HB.out)) hb); clear HB; have HB := n0_; clear n0_; (try clear hb); (try clear hb2); (try clear hk); (try clear hi)))
                          go_ret
                          exact ⟨by first | rfl | (simp [errW_none, errW_some] <;> rfl) | (simp [*, errW_none, errW_some] <;> rfl), by repeat (first | (with_reducible first | exact HB.out | apply below_alloc | apply pw_below_drewN | apply below_drew1) | exact HB.out)⟩
                        · rw [if_neg c49] at H
                          have c49b0 : (a1 == (-1)) = false := beq_eq_false_iff_ne.mpr c49
                          have c49b1 : (a1 != (-1)) = true := bne_iff_ne.mpr c49
                          obtain rfl := Option.some.inj H
                          exact absurd HR.out (by decide) -- leaf 13
                      · rw [if_neg c48] at H
                        have c48b0 : (a0 == (-9223372036854775808)) = false := beq_eq_false_iff_ne.mpr c48
                        have c48b1 : (a0 != (-9223372036854775808)) = true := bne_iff_ne.mpr c48
                        obtain rfl := Option.some.inj H
                        exact absurd HR.out (by decide) -- leaf 14
                    · rw [if_neg c47] at H
                      have c47b0 : (t405 == 4) = false := beq_eq_false_iff_ne.mpr c47
                      have c47b1 : (t405 != 4) = true := bne_iff_ne.mpr c47
                      obtain rfl := Option.some.inj H
                      exact absurd HR.out (by decide) -- leaf 15
                  · rw [if_neg c46] at H
                    have c46b0 : (t406 == 0) = false := beq_eq_false_iff_ne.mpr c46
                    have c46b1 : (t406 != 0) = true := bne_iff_ne.mpr c46
                    obtain rfl := Option.some.inj H
                    exact absurd HR.out (by decide) -- leaf 16
                · replace c45 := Bool.eq_false_iff.mpr c45
                  subst c45
                  have H1 : (some false) = some r := by rw [if_neg (show ¬ (false = true) by decide)] at H; exact H
                  clear H
                  have H := H1
                  clear H1
                  obtain rfl := Option.some.inj H
                  exact absurd HR.out (by decide) -- leaf 17
/-- THE ONE PURE STATEMENT of jointerlaw01_ValueDivides: yours. -/
def jointerlaw01_ValueDivides.Pure : Prop := ∀ (a0 : Int) (a1 : Int), (Lit.int .i64 a0).wf = true → (Lit.int .i64 a1).wf = true → ∃ k, jointerlaw01_ValueDivides.f k a0 a1 = some true
theorem jointerlaw01_ValueDivides.walk (P : jointerlaw01_ValueDivides.Pure) (a0 : Int) (a1 : Int) (w : World) (w0 : (Lit.int .i64 a0).wf = true) (w1 : (Lit.int .i64 a1).wf = true) (hL : LaidV w) :
    Calls Tryz.prog 11 #[.int .i64 a0, .int .i64 a1] w fun e w' => e = .returned (.bool true) ∧ Below w.heap.size w w' := by
  obtain ⟨k, h⟩ := P a0 a1 w0 w1
  refine (jointerlaw01_ValueDivides.calls k a0 a1 true w rfl h hL).mono ?_
  rintro e w' ⟨rfl, hd⟩
  exact ⟨rfl, hd⟩

end Go.Proofs.YtafdoogghalpjaaGreatDoor.PAll
