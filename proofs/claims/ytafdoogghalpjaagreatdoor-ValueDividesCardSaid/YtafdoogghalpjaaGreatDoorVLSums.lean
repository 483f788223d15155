import Derived.Test.YtafdoogghalpjaaGreatDoorVAwake
import Derived.Test.YtafdoogghalpjaaGreatDoorVFe
import Derived.Test.YtafdoogghalpjaaGreatDoorVMul
import Derived.Test.YtafdoogghalpjaaGreatDoorVFg
namespace Go.Proofs.YtafdoogghalpjaaGreatDoor.PAll
open Go.RowKit Go.Proofs.YtafdoogghalpjaaGreatDoorW.PrintWords Go.Proofs.YtafdoogghalpjaaGreatDoorW.PrintLast Go.Proofs.YtafdoogghalpjaaGreatDoorW.PrintMore
attribute [local go_sem] max2_int min2_int max_two min_two max_three min_three max_four min_four   -- for this text's walks alone
set_option linter.unusedVariables false
set_option linter.unusedSimpArgs false

attribute [local go_sem high] eqA24
/-! ### jointerref01_Div: function 33 -/
def jointerref01_Div.f (a0 : Int) (a1 : Int) : Option (Int × Int) := if a1 = 0 then (some (0, 3)) else (if a0 = (-9223372036854775808) then (if a1 = (-1) then (some (0, 4)) else (some (wrap64 (Int.tdiv a0 a1), 0))) else (some (wrap64 (Int.tdiv a0 a1), 0)))
set_option maxHeartbeats 8000000 in
set_option maxRecDepth 100000 in
theorem jointerref01_Div.calls (a0 : Int) (a1 : Int) (r1 : Int) (r2 : Int) (w : World) (h : jointerref01_Div.f a0 a1 = some (r1, r2)) :
    Calls Tryz.prog 33 #[.int .i64 a0, .int .i64 a1] w fun e w' => e = .returned (.tuple #[.int .i64 r1, .int .i64 r2]) ∧ Drawn0 w w' := by
  have H : (if a1 = 0 then (some (0, 3)) else (if a0 = (-9223372036854775808) then (if a1 = (-1) then (some (0, 4)) else (some (wrap64 (Int.tdiv a0 a1), 0))) else (some (wrap64 (Int.tdiv a0 a1), 0)))) = some (r1, r2) := h
  clear h
  by_cases c3 : a1 = 0
  · rw [if_pos c3] at H
    have c3b0 : (a1 == 0) = true := beq_iff_eq.mpr c3
    have c3b1 : (a1 != 0) = false := bne_eq_false_iff_eq.mpr c3
    clear c3
    simp only [Option.some.injEq, Prod.mk.injEq] at H
    obtain ⟨rfl, rfl⟩ := H
    go_enter Tryz.func33, Tryz.ntmps33
    go_wp2
    go_ret2
    exact ⟨by first | rfl | (simp; done) | (simp [*]; done), by repeat (first | exact Drawn0.refl _ | apply Drawn0.step)⟩
  · rw [if_neg c3] at H
    have c3b0 : (a1 == 0) = false := beq_eq_false_iff_ne.mpr c3
    have c3b1 : (a1 != 0) = true := bne_iff_ne.mpr c3
    by_cases c4 : a0 = (-9223372036854775808)
    · rw [if_pos c4] at H
      have c4b0 : (a0 == (-9223372036854775808)) = true := beq_iff_eq.mpr c4
      have c4b1 : (a0 != (-9223372036854775808)) = false := bne_eq_false_iff_eq.mpr c4
      clear c4
      by_cases c5 : a1 = (-1)
      · rw [if_pos c5] at H
        have c5b0 : (a1 == (-1)) = true := beq_iff_eq.mpr c5
        have c5b1 : (a1 != (-1)) = false := bne_eq_false_iff_eq.mpr c5
        clear c5
        simp only [Option.some.injEq, Prod.mk.injEq] at H
        obtain ⟨rfl, rfl⟩ := H
        go_enter Tryz.func33, Tryz.ntmps33
        go_wp2
        go_ret2
        exact ⟨by first | rfl | (simp; done) | (simp [*]; done), by repeat (first | exact Drawn0.refl _ | apply Drawn0.step)⟩
      · rw [if_neg c5] at H
        have c5b0 : (a1 == (-1)) = false := beq_eq_false_iff_ne.mpr c5
        have c5b1 : (a1 != (-1)) = true := bne_iff_ne.mpr c5
        simp only [Option.some.injEq, Prod.mk.injEq] at H
        obtain ⟨rfl, rfl⟩ := H
        go_enter Tryz.func33, Tryz.ntmps33
        go_wp2
        go_ret2
        exact ⟨by first | rfl | (simp; done) | (simp [*]; done), by repeat (first | exact Drawn0.refl _ | apply Drawn0.step)⟩
    · rw [if_neg c4] at H
      have c4b0 : (a0 == (-9223372036854775808)) = false := beq_eq_false_iff_ne.mpr c4
      have c4b1 : (a0 != (-9223372036854775808)) = true := bne_iff_ne.mpr c4
      simp only [Option.some.injEq, Prod.mk.injEq] at H
      obtain ⟨rfl, rfl⟩ := H
      go_enter Tryz.func33, Tryz.ntmps33
      go_wp2
      go_ret2
      exact ⟨by first | rfl | (simp; done) | (simp [*]; done), by repeat (first | exact Drawn0.refl _ | apply Drawn0.step)⟩


/-! ### jointerref01_Mod: function 35 -/
def jointerref01_Mod.f (a0 : Int) (a1 : Int) : Option (Int × Int) := if a1 = 0 then (some (0, 3)) else (if a1 = (-1) then (some (0, 0)) else (some (Int.tmod a0 a1, 0)))
set_option maxHeartbeats 8000000 in
set_option maxRecDepth 100000 in
theorem jointerref01_Mod.calls (a0 : Int) (a1 : Int) (r1 : Int) (r2 : Int) (w : World) (h : jointerref01_Mod.f a0 a1 = some (r1, r2)) :
    Calls Tryz.prog 35 #[.int .i64 a0, .int .i64 a1] w fun e w' => e = .returned (.tuple #[.int .i64 r1, .int .i64 r2]) ∧ Drawn0 w w' := by
  have H : (if a1 = 0 then (some (0, 3)) else (if a1 = (-1) then (some (0, 0)) else (some (Int.tmod a0 a1, 0)))) = some (r1, r2) := h
  clear h
  by_cases c3 : a1 = 0
  · rw [if_pos c3] at H
    have c3b0 : (a1 == 0) = true := beq_iff_eq.mpr c3
    have c3b1 : (a1 != 0) = false := bne_eq_false_iff_eq.mpr c3
    clear c3
    simp only [Option.some.injEq, Prod.mk.injEq] at H
    obtain ⟨rfl, rfl⟩ := H
    go_enter Tryz.func35, Tryz.ntmps35
    go_wp2
    go_ret2
    exact ⟨by first | rfl | (simp; done) | (simp [*]; done), by repeat (first | exact Drawn0.refl _ | apply Drawn0.step)⟩
  · rw [if_neg c3] at H
    have c3b0 : (a1 == 0) = false := beq_eq_false_iff_ne.mpr c3
    have c3b1 : (a1 != 0) = true := bne_iff_ne.mpr c3
    by_cases c4 : a1 = (-1)
    · rw [if_pos c4] at H
      have c4b0 : (a1 == (-1)) = true := beq_iff_eq.mpr c4
      have c4b1 : (a1 != (-1)) = false := bne_eq_false_iff_eq.mpr c4
      clear c4
      simp only [Option.some.injEq, Prod.mk.injEq] at H
      obtain ⟨rfl, rfl⟩ := H
      go_enter Tryz.func35, Tryz.ntmps35
      go_wp2
      go_ret2
      exact ⟨by first | rfl | (simp; done) | (simp [*]; done), by repeat (first | exact Drawn0.refl _ | apply Drawn0.step)⟩
    · rw [if_neg c4] at H
      have c4b0 : (a1 == (-1)) = false := beq_eq_false_iff_ne.mpr c4
      have c4b1 : (a1 != (-1)) = true := bne_iff_ne.mpr c4
      simp only [Option.some.injEq, Prod.mk.injEq] at H
      obtain ⟨rfl, rfl⟩ := H
      go_enter Tryz.func35, Tryz.ntmps35
      go_wp2
      go_ret2
      exact ⟨by first | rfl | (simp; done) | (simp [*]; done), by repeat (first | exact Drawn0.refl _ | apply Drawn0.step)⟩


/-! ### jointerlaw01_ValueSums: function 10 -/
def jointerlaw01_ValueSums.f (k : Nat) (a0 : Int) (a1 : Int) : Option (Bool) := (jointerref01_Add.f a0 a1).bind fun bt378 => ((value_Add.f a0 a1).bind fun bt380 => ((jointerlaw01_sum.f bt380.1 bt380.2 bt378.1 bt378.2).bind fun t382 => (if t382 = true then ((value_Sub.f a0 a1).bind fun bt383 => ((jointerref01_Sub.f a0 a1).bind fun bt385 => ((jointerlaw01_sum.f bt383.1 bt383.2 bt385.1 bt385.2).bind fun t387 => (if t387 = true then ((value_Mul.f a0 a1).bind fun bt388 => ((jointerref01_Mul.f k a0 a1).bind fun bt390 => ((jointerlaw01_sum.f bt388.1 bt388.2 bt390.1 bt390.2).bind fun t392 => (if t392 = true then ((value_Div.f a0 a1).bind fun bt393 => ((jointerref01_Div.f a0 a1).bind fun bt395 => ((jointerlaw01_sum.f bt393.1 bt393.2 bt395.1 bt395.2).bind fun t397 => (if t397 = true then ((value_Mod.f a0 a1).bind fun bt398 => ((jointerref01_Mod.f a0 a1).bind fun bt400 => ((jointerlaw01_sum.f bt398.1 bt398.2 bt400.1 bt400.2).bind fun t402 => (if t402 = true then ((jointerlaw01_awake.f k).bind fun t403 => (some t403)) else (some false))))) else (some false))))) else (some false))))) else (some false))))) else (some false))))
theorem jointerlaw01_ValueSums.mono : ∀ a0 a1 k, LeO (jointerlaw01_ValueSums.f k a0 a1) (jointerlaw01_ValueSums.f (k + 1) a0 a1) := by
  intro a0 a1 k
  unfold jointerlaw01_ValueSums.f
  repeat' first
      | (with_reducible exact jointerlaw01_awake.mono _)
      | (with_reducible exact jointerref01_Mul.mono _ _ _)
      | (with_reducible exact LeO.refl _)
      | (with_reducible exact LeO.none _)
      | (with_reducible refine LeO.ite ?_ ?_)
      | (with_reducible refine LeO.bind ?_ (fun _ => ?_))
      | exact jointerlaw01_awake.mono _
      | exact jointerref01_Mul.mono _ _ _
      | exact LeO.none _
      | refine LeO.ite ?_ ?_
      | refine LeO.bind ?_ (fun _ => ?_)
set_option maxHeartbeats 8000000 in
set_option maxRecDepth 100000 in
theorem jointerlaw01_ValueSums.calls (k : Nat) (a0 : Int) (a1 : Int) (r : Bool) (w : World) (hr : r = true) (h : jointerlaw01_ValueSums.f k a0 a1 = some r) (hL : LaidV w) :
    Calls Tryz.prog 10 #[.int .i64 a0, .int .i64 a1] w fun e w' => e = .returned (.bool r) ∧ Below w.heap.size w w' := by
  have HR := Aside0.mk hr
  clear hr
  have HL := Aside0.mk hL
  clear hL
  have HB := Aside0.mk (Below.refl w.heap.size w)
  have H : ((jointerref01_Add.f a0 a1).bind fun bt378 => ((value_Add.f a0 a1).bind fun bt380 => ((jointerlaw01_sum.f bt380.1 bt380.2 bt378.1 bt378.2).bind fun t382 => (if t382 = true then ((value_Sub.f a0 a1).bind fun bt383 => ((jointerref01_Sub.f a0 a1).bind fun bt385 => ((jointerlaw01_sum.f bt383.1 bt383.2 bt385.1 bt385.2).bind fun t387 => (if t387 = true then ((value_Mul.f a0 a1).bind fun bt388 => ((jointerref01_Mul.f k a0 a1).bind fun bt390 => ((jointerlaw01_sum.f bt388.1 bt388.2 bt390.1 bt390.2).bind fun t392 => (if t392 = true then ((value_Div.f a0 a1).bind fun bt393 => ((jointerref01_Div.f a0 a1).bind fun bt395 => ((jointerlaw01_sum.f bt393.1 bt393.2 bt395.1 bt395.2).bind fun t397 => (if t397 = true then ((value_Mod.f a0 a1).bind fun bt398 => ((jointerref01_Mod.f a0 a1).bind fun bt400 => ((jointerlaw01_sum.f bt398.1 bt398.2 bt400.1 bt400.2).bind fun t402 => (if t402 = true then ((jointerlaw01_awake.f k).bind fun t403 => (some t403)) else (some false))))) else (some false))))) else (some false))))) else (some false))))) else (some false))))) = some r := h
  clear h
  replace H := Option.bind_eq_some_iff.mp H
  obtain ⟨⟨t378, t379⟩, A30, H⟩ := H
  replace H : ((value_Add.f a0 a1).bind fun bt380 => ((jointerlaw01_sum.f bt380.1 bt380.2 t378 t379).bind fun t382 => (if t382 = true then ((value_Sub.f a0 a1).bind fun bt383 => ((jointerref01_Sub.f a0 a1).bind fun bt385 => ((jointerlaw01_sum.f bt383.1 bt383.2 bt385.1 bt385.2).bind fun t387 => (if t387 = true then ((value_Mul.f a0 a1).bind fun bt388 => ((jointerref01_Mul.f k a0 a1).bind fun bt390 => ((jointerlaw01_sum.f bt388.1 bt388.2 bt390.1 bt390.2).bind fun t392 => (if t392 = true then ((value_Div.f a0 a1).bind fun bt393 => ((jointerref01_Div.f a0 a1).bind fun bt395 => ((jointerlaw01_sum.f bt393.1 bt393.2 bt395.1 bt395.2).bind fun t397 => (if t397 = true then ((value_Mod.f a0 a1).bind fun bt398 => ((jointerref01_Mod.f a0 a1).bind fun bt400 => ((jointerlaw01_sum.f bt398.1 bt398.2 bt400.1 bt400.2).bind fun t402 => (if t402 = true then ((jointerlaw01_awake.f k).bind fun t403 => (some t403)) else (some false))))) else (some false))))) else (some false))))) else (some false))))) else (some false)))) = some r := H
  have A3 := Aside0.mk A30
  clear A30
  replace H := Option.bind_eq_some_iff.mp H
  obtain ⟨⟨t380, t381⟩, A40, H⟩ := H
  replace H : ((jointerlaw01_sum.f t380 t381 t378 t379).bind fun t382 => (if t382 = true then ((value_Sub.f a0 a1).bind fun bt383 => ((jointerref01_Sub.f a0 a1).bind fun bt385 => ((jointerlaw01_sum.f bt383.1 bt383.2 bt385.1 bt385.2).bind fun t387 => (if t387 = true then ((value_Mul.f a0 a1).bind fun bt388 => ((jointerref01_Mul.f k a0 a1).bind fun bt390 => ((jointerlaw01_sum.f bt388.1 bt388.2 bt390.1 bt390.2).bind fun t392 => (if t392 = true then ((value_Div.f a0 a1).bind fun bt393 => ((jointerref01_Div.f a0 a1).bind fun bt395 => ((jointerlaw01_sum.f bt393.1 bt393.2 bt395.1 bt395.2).bind fun t397 => (if t397 = true then ((value_Mod.f a0 a1).bind fun bt398 => ((jointerref01_Mod.f a0 a1).bind fun bt400 => ((jointerlaw01_sum.f bt398.1 bt398.2 bt400.1 bt400.2).bind fun t402 => (if t402 = true then ((jointerlaw01_awake.f k).bind fun t403 => (some t403)) else (some false))))) else (some false))))) else (some false))))) else (some false))))) else (some false))) = some r := H
  have A4 := Aside0.mk A40
  clear A40
  replace H := Option.bind_eq_some_iff.mp H
  obtain ⟨t382, A50, H⟩ := H
  replace H : (if t382 = true then ((value_Sub.f a0 a1).bind fun bt383 => ((jointerref01_Sub.f a0 a1).bind fun bt385 => ((jointerlaw01_sum.f bt383.1 bt383.2 bt385.1 bt385.2).bind fun t387 => (if t387 = true then ((value_Mul.f a0 a1).bind fun bt388 => ((jointerref01_Mul.f k a0 a1).bind fun bt390 => ((jointerlaw01_sum.f bt388.1 bt388.2 bt390.1 bt390.2).bind fun t392 => (if t392 = true then ((value_Div.f a0 a1).bind fun bt393 => ((jointerref01_Div.f a0 a1).bind fun bt395 => ((jointerlaw01_sum.f bt393.1 bt393.2 bt395.1 bt395.2).bind fun t397 => (if t397 = true then ((value_Mod.f a0 a1).bind fun bt398 => ((jointerref01_Mod.f a0 a1).bind fun bt400 => ((jointerlaw01_sum.f bt398.1 bt398.2 bt400.1 bt400.2).bind fun t402 => (if t402 = true then ((jointerlaw01_awake.f k).bind fun t403 => (some t403)) else (some false))))) else (some false))))) else (some false))))) else (some false))))) else (some false)) = some r := H
  have A5 := Aside0.mk A50
  clear A50
  by_cases c6 : t382 = true
  · subst c6
    have H1 : ((value_Sub.f a0 a1).bind fun bt383 => ((jointerref01_Sub.f a0 a1).bind fun bt385 => ((jointerlaw01_sum.f bt383.1 bt383.2 bt385.1 bt385.2).bind fun t387 => (if t387 = true then ((value_Mul.f a0 a1).bind fun bt388 => ((jointerref01_Mul.f k a0 a1).bind fun bt390 => ((jointerlaw01_sum.f bt388.1 bt388.2 bt390.1 bt390.2).bind fun t392 => (if t392 = true then ((value_Div.f a0 a1).bind fun bt393 => ((jointerref01_Div.f a0 a1).bind fun bt395 => ((jointerlaw01_sum.f bt393.1 bt393.2 bt395.1 bt395.2).bind fun t397 => (if t397 = true then ((value_Mod.f a0 a1).bind fun bt398 => ((jointerref01_Mod.f a0 a1).bind fun bt400 => ((jointerlaw01_sum.f bt398.1 bt398.2 bt400.1 bt400.2).bind fun t402 => (if t402 = true then ((jointerlaw01_awake.f k).bind fun t403 => (some t403)) else (some false))))) else (some false))))) else (some false))))) else (some false))))) = some r := by rw [if_pos rfl] at H; exact H
    clear H
    have H := H1
    clear H1
    replace H := Option.bind_eq_some_iff.mp H
    obtain ⟨⟨t383, t384⟩, A70, H⟩ := H
    replace H : ((jointerref01_Sub.f a0 a1).bind fun bt385 => ((jointerlaw01_sum.f t383 t384 bt385.1 bt385.2).bind fun t387 => (if t387 = true then ((value_Mul.f a0 a1).bind fun bt388 => ((jointerref01_Mul.f k a0 a1).bind fun bt390 => ((jointerlaw01_sum.f bt388.1 bt388.2 bt390.1 bt390.2).bind fun t392 => (if t392 = true then ((value_Div.f a0 a1).bind fun bt393 => ((jointerref01_Div.f a0 a1).bind fun bt395 => ((jointerlaw01_sum.f bt393.1 bt393.2 bt395.1 bt395.2).bind fun t397 => (if t397 = true then ((value_Mod.f a0 a1).bind fun bt398 => ((jointerref01_Mod.f a0 a1).bind fun bt400 => ((jointerlaw01_sum.f bt398.1 bt398.2 bt400.1 bt400.2).bind fun t402 => (if t402 = true then ((jointerlaw01_awake.f k).bind fun t403 => (some t403)) else (some false))))) else (some false))))) else (some false))))) else (some false)))) = some r := H
    have A7 := Aside0.mk A70
    clear A70
    replace H := Option.bind_eq_some_iff.mp H
    obtain ⟨⟨t385, t386⟩, A80, H⟩ := H
    replace H : ((jointerlaw01_sum.f t383 t384 t385 t386).bind fun t387 => (if t387 = true then ((value_Mul.f a0 a1).bind fun bt388 => ((jointerref01_Mul.f k a0 a1).bind fun bt390 => ((jointerlaw01_sum.f bt388.1 bt388.2 bt390.1 bt390.2).bind fun t392 => (if t392 = true then ((value_Div.f a0 a1).bind fun bt393 => ((jointerref01_Div.f a0 a1).bind fun bt395 => ((jointerlaw01_sum.f bt393.1 bt393.2 bt395.1 bt395.2).bind fun t397 => (if t397 = true then ((value_Mod.f a0 a1).bind fun bt398 => ((jointerref01_Mod.f a0 a1).bind fun bt400 => ((jointerlaw01_sum.f bt398.1 bt398.2 bt400.1 bt400.2).bind fun t402 => (if t402 = true then ((jointerlaw01_awake.f k).bind fun t403 => (some t403)) else (some false))))) else (some false))))) else (some false))))) else (some false))) = some r := H
    have A8 := Aside0.mk A80
    clear A80
    replace H := Option.bind_eq_some_iff.mp H
    obtain ⟨t387, A90, H⟩ := H
    replace H : (if t387 = true then ((value_Mul.f a0 a1).bind fun bt388 => ((jointerref01_Mul.f k a0 a1).bind fun bt390 => ((jointerlaw01_sum.f bt388.1 bt388.2 bt390.1 bt390.2).bind fun t392 => (if t392 = true then ((value_Div.f a0 a1).bind fun bt393 => ((jointerref01_Div.f a0 a1).bind fun bt395 => ((jointerlaw01_sum.f bt393.1 bt393.2 bt395.1 bt395.2).bind fun t397 => (if t397 = true then ((value_Mod.f a0 a1).bind fun bt398 => ((jointerref01_Mod.f a0 a1).bind fun bt400 => ((jointerlaw01_sum.f bt398.1 bt398.2 bt400.1 bt400.2).bind fun t402 => (if t402 = true then ((jointerlaw01_awake.f k).bind fun t403 => (some t403)) else (some false))))) else (some false))))) else (some false))))) else (some false)) = some r := H
    have A9 := Aside0.mk A90
    clear A90
    by_cases c10 : t387 = true
    · subst c10
      have H1 : ((value_Mul.f a0 a1).bind fun bt388 => ((jointerref01_Mul.f k a0 a1).bind fun bt390 => ((jointerlaw01_sum.f bt388.1 bt388.2 bt390.1 bt390.2).bind fun t392 => (if t392 = true then ((value_Div.f a0 a1).bind fun bt393 => ((jointerref01_Div.f a0 a1).bind fun bt395 => ((jointerlaw01_sum.f bt393.1 bt393.2 bt395.1 bt395.2).bind fun t397 => (if t397 = true then ((value_Mod.f a0 a1).bind fun bt398 => ((jointerref01_Mod.f a0 a1).bind fun bt400 => ((jointerlaw01_sum.f bt398.1 bt398.2 bt400.1 bt400.2).bind fun t402 => (if t402 = true then ((jointerlaw01_awake.f k).bind fun t403 => (some t403)) else (some false))))) else (some false))))) else (some false))))) = some r := by rw [if_pos rfl] at H; exact H
      clear H
      have H := H1
      clear H1
      replace H := Option.bind_eq_some_iff.mp H
      obtain ⟨⟨t388, t389⟩, A110, H⟩ := H
      replace H : ((jointerref01_Mul.f k a0 a1).bind fun bt390 => ((jointerlaw01_sum.f t388 t389 bt390.1 bt390.2).bind fun t392 => (if t392 = true then ((value_Div.f a0 a1).bind fun bt393 => ((jointerref01_Div.f a0 a1).bind fun bt395 => ((jointerlaw01_sum.f bt393.1 bt393.2 bt395.1 bt395.2).bind fun t397 => (if t397 = true then ((value_Mod.f a0 a1).bind fun bt398 => ((jointerref01_Mod.f a0 a1).bind fun bt400 => ((jointerlaw01_sum.f bt398.1 bt398.2 bt400.1 bt400.2).bind fun t402 => (if t402 = true then ((jointerlaw01_awake.f k).bind fun t403 => (some t403)) else (some false))))) else (some false))))) else (some false)))) = some r := H
      have A11 := Aside0.mk A110
      clear A110
      replace H := Option.bind_eq_some_iff.mp H
      obtain ⟨⟨t390, t391⟩, A120, H⟩ := H
      replace H : ((jointerlaw01_sum.f t388 t389 t390 t391).bind fun t392 => (if t392 = true then ((value_Div.f a0 a1).bind fun bt393 => ((jointerref01_Div.f a0 a1).bind fun bt395 => ((jointerlaw01_sum.f bt393.1 bt393.2 bt395.1 bt395.2).bind fun t397 => (if t397 = true then ((value_Mod.f a0 a1).bind fun bt398 => ((jointerref01_Mod.f a0 a1).bind fun bt400 => ((jointerlaw01_sum.f bt398.1 bt398.2 bt400.1 bt400.2).bind fun t402 => (if t402 = true then ((jointerlaw01_awake.f k).bind fun t403 => (some t403)) else (some false))))) else (some false))))) else (some false))) = some r := H
      have A12 := Aside0.mk A120
      clear A120
      replace H := Option.bind_eq_some_iff.mp H
      obtain ⟨t392, A130, H⟩ := H
      replace H : (if t392 = true then ((value_Div.f a0 a1).bind fun bt393 => ((jointerref01_Div.f a0 a1).bind fun bt395 => ((jointerlaw01_sum.f bt393.1 bt393.2 bt395.1 bt395.2).bind fun t397 => (if t397 = true then ((value_Mod.f a0 a1).bind fun bt398 => ((jointerref01_Mod.f a0 a1).bind fun bt400 => ((jointerlaw01_sum.f bt398.1 bt398.2 bt400.1 bt400.2).bind fun t402 => (if t402 = true then ((jointerlaw01_awake.f k).bind fun t403 => (some t403)) else (some false))))) else (some false))))) else (some false)) = some r := H
      have A13 := Aside0.mk A130
      clear A130
      by_cases c14 : t392 = true
      · subst c14
        have H1 : ((value_Div.f a0 a1).bind fun bt393 => ((jointerref01_Div.f a0 a1).bind fun bt395 => ((jointerlaw01_sum.f bt393.1 bt393.2 bt395.1 bt395.2).bind fun t397 => (if t397 = true then ((value_Mod.f a0 a1).bind fun bt398 => ((jointerref01_Mod.f a0 a1).bind fun bt400 => ((jointerlaw01_sum.f bt398.1 bt398.2 bt400.1 bt400.2).bind fun t402 => (if t402 = true then ((jointerlaw01_awake.f k).bind fun t403 => (some t403)) else (some false))))) else (some false))))) = some r := by rw [if_pos rfl] at H; exact H
        clear H
        have H := H1
        clear H1
        replace H := Option.bind_eq_some_iff.mp H
        obtain ⟨⟨t393, t394⟩, A150, H⟩ := H
        replace H : ((jointerref01_Div.f a0 a1).bind fun bt395 => ((jointerlaw01_sum.f t393 t394 bt395.1 bt395.2).bind fun t397 => (if t397 = true then ((value_Mod.f a0 a1).bind fun bt398 => ((jointerref01_Mod.f a0 a1).bind fun bt400 => ((jointerlaw01_sum.f bt398.1 bt398.2 bt400.1 bt400.2).bind fun t402 => (if t402 = true then ((jointerlaw01_awake.f k).bind fun t403 => (some t403)) else (some false))))) else (some false)))) = some r := H
        have A15 := Aside0.mk A150
        clear A150
        replace H := Option.bind_eq_some_iff.mp H
        obtain ⟨⟨t395, t396⟩, A160, H⟩ := H
        replace H : ((jointerlaw01_sum.f t393 t394 t395 t396).bind fun t397 => (if t397 = true then ((value_Mod.f a0 a1).bind fun bt398 => ((jointerref01_Mod.f a0 a1).bind fun bt400 => ((jointerlaw01_sum.f bt398.1 bt398.2 bt400.1 bt400.2).bind fun t402 => (if t402 = true then ((jointerlaw01_awake.f k).bind fun t403 => (some t403)) else (some false))))) else (some false))) = some r := H
        have A16 := Aside0.mk A160
        clear A160
        replace H := Option.bind_eq_some_iff.mp H
        obtain ⟨t397, A170, H⟩ := H
        replace H : (if t397 = true then ((value_Mod.f a0 a1).bind fun bt398 => ((jointerref01_Mod.f a0 a1).bind fun bt400 => ((jointerlaw01_sum.f bt398.1 bt398.2 bt400.1 bt400.2).bind fun t402 => (if t402 = true then ((jointerlaw01_awake.f k).bind fun t403 => (some t403)) else (some false))))) else (some false)) = some r := H
        have A17 := Aside0.mk A170
        clear A170
        by_cases c18 : t397 = true
        · subst c18
          have H1 : ((value_Mod.f a0 a1).bind fun bt398 => ((jointerref01_Mod.f a0 a1).bind fun bt400 => ((jointerlaw01_sum.f bt398.1 bt398.2 bt400.1 bt400.2).bind fun t402 => (if t402 = true then ((jointerlaw01_awake.f k).bind fun t403 => (some t403)) else (some false))))) = some r := by rw [if_pos rfl] at H; exact H
          clear H
          have H := H1
          clear H1
          replace H := Option.bind_eq_some_iff.mp H
          obtain ⟨⟨t398, t399⟩, A190, H⟩ := H
          replace H : ((jointerref01_Mod.f a0 a1).bind fun bt400 => ((jointerlaw01_sum.f t398 t399 bt400.1 bt400.2).bind fun t402 => (if t402 = true then ((jointerlaw01_awake.f k).bind fun t403 => (some t403)) else (some false)))) = some r := H
          have A19 := Aside0.mk A190
          clear A190
          replace H := Option.bind_eq_some_iff.mp H
          obtain ⟨⟨t400, t401⟩, A200, H⟩ := H
          replace H : ((jointerlaw01_sum.f t398 t399 t400 t401).bind fun t402 => (if t402 = true then ((jointerlaw01_awake.f k).bind fun t403 => (some t403)) else (some false))) = some r := H
          have A20 := Aside0.mk A200
          clear A200
          replace H := Option.bind_eq_some_iff.mp H
          obtain ⟨t402, A210, H⟩ := H
          replace H : (if t402 = true then ((jointerlaw01_awake.f k).bind fun t403 => (some t403)) else (some false)) = some r := H
          have A21 := Aside0.mk A210
          clear A210
          by_cases c22 : t402 = true
          · subst c22
            have H1 : ((jointerlaw01_awake.f k).bind fun t403 => (some t403)) = some r := by rw [if_pos rfl] at H; exact H
            clear H
            have H := H1
            clear H1
            replace H := Option.bind_eq_some_iff.mp H
            obtain ⟨t403, A230, H⟩ := H
            replace H : (some t403) = some r := H
            have A23 := Aside0.mk A230
            clear A230
            obtain rfl := Option.some.inj H
            go_enter Tryz.func10, Tryz.ntmps10
            go_wp2_with (first | ((with_reducible refine gate_callee (f := 25) rfl ?_); refine goesL_ (some 12) rfl rfl Tryz.func25 (by kernel_rfl) rfl #[.int .i64 a0, .int .i64 a1] rfl (by (try simp only [List.map_toArray, List.map_cons, List.map_nil]); first | done | rfl | (simp only [List.length_drop, List.length_take]; rfl)) ?_; (with_reducible refine (jointerref01_Add.calls a0 a1 t378 t379 _ A3.out).mono ?_); rintro e w' ⟨rfl, ⟨nd, rfl⟩⟩; refine ⟨_, rfl, ?_⟩) | ((with_reducible refine gate_callee (f := 26) rfl ?_); refine goesL_ (some 18) rfl rfl Tryz.func26 (by kernel_rfl) rfl #[.int .i64 a0, .int .i64 a1] rfl (by (try simp only [List.map_toArray, List.map_cons, List.map_nil]); first | done | rfl | (simp only [List.length_drop, List.length_take]; rfl)) ?_; (with_reducible refine (value_Add.calls a0 a1 t380 t381 _ A4.out).mono ?_); rintro e w' ⟨rfl, ⟨nd, rfl⟩⟩; refine ⟨_, rfl, ?_⟩) | ((with_reducible refine gate_callee (f := 27) rfl ?_); refine goesL_ (some 25) rfl rfl Tryz.func27 (by kernel_rfl) rfl #[.int .i64 t380, .int .i64 t381, .int .i64 t378, .int .i64 t379] rfl (by (try simp only [List.map_toArray, List.map_cons, List.map_nil]); first | done | rfl | (simp only [List.length_drop, List.length_take]; rfl)) ?_; (with_reducible refine (jointerlaw01_sum.calls t380 t381 t378 t379 true _ A5.out).mono ?_); rintro e w' ⟨rfl, ⟨nd, rfl⟩⟩; refine ⟨_, rfl, ?_⟩) | ((with_reducible refine gate_callee (f := 28) rfl ?_); refine goesL_ (some 30) rfl rfl Tryz.func28 (by kernel_rfl) rfl #[.int .i64 a0, .int .i64 a1] rfl (by (try simp only [List.map_toArray, List.map_cons, List.map_nil]); first | done | rfl | (simp only [List.length_drop, List.length_take]; rfl)) ?_; (with_reducible refine (value_Sub.calls a0 a1 t383 t384 _ A7.out).mono ?_); rintro e w' ⟨rfl, ⟨nd, rfl⟩⟩; refine ⟨_, rfl, ?_⟩) | ((with_reducible refine gate_callee (f := 29) rfl ?_); refine goesL_ (some 36) rfl rfl Tryz.func29 (by kernel_rfl) rfl #[.int .i64 a0, .int .i64 a1] rfl (by (try simp only [List.map_toArray, List.map_cons, List.map_nil]); first | done | rfl | (simp only [List.length_drop, List.length_take]; rfl)) ?_; (with_reducible refine (jointerref01_Sub.calls a0 a1 t385 t386 _ A8.out).mono ?_); rintro e w' ⟨rfl, ⟨nd, rfl⟩⟩; refine ⟨_, rfl, ?_⟩) | ((with_reducible refine gate_callee (f := 27) rfl ?_); refine goesL_ (some 43) rfl rfl Tryz.func27 (by kernel_rfl) rfl #[.int .i64 t383, .int .i64 t384, .int .i64 t385, .int .i64 t386] rfl (by (try simp only [List.map_toArray, List.map_cons, List.map_nil]); first | done | rfl | (simp only [List.length_drop, List.length_take]; rfl)) ?_; (with_reducible refine (jointerlaw01_sum.calls t383 t384 t385 t386 true _ A9.out).mono ?_); rintro e w' ⟨rfl, ⟨nd, rfl⟩⟩; refine ⟨_, rfl, ?_⟩) | ((with_reducible refine gate_callee (f := 30) rfl ?_); refine goesL_ (some 48) rfl rfl Tryz.func30 (by kernel_rfl) rfl #[.int .i64 a0, .int .i64 a1] rfl (by (try simp only [List.map_toArray, List.map_cons, List.map_nil]); first | done | rfl | (simp only [List.length_drop, List.length_take]; rfl)) ?_; (with_reducible refine (value_Mul.calls a0 a1 t388 t389 _ A11.out).mono ?_); rintro e w' ⟨rfl, ⟨nd, rfl⟩⟩; refine ⟨_, rfl, ?_⟩) | ((with_reducible refine gate_callee (f := 31) rfl ?_); refine goesL_ (some 54) rfl rfl Tryz.func31 (by kernel_rfl) rfl #[.int .i64 a0, .int .i64 a1] rfl (by (try simp only [List.map_toArray, List.map_cons, List.map_nil]); first | done | rfl | (simp only [List.length_drop, List.length_take]; rfl)) ?_; (with_reducible refine (jointerref01_Mul.calls k a0 a1 t390 t391 _ A12.out).mono ?_); rintro e w' ⟨rfl, ⟨nd, rfl⟩⟩; refine ⟨_, rfl, ?_⟩) | ((with_reducible refine gate_callee (f := 27) rfl ?_); refine goesL_ (some 61) rfl rfl Tryz.func27 (by kernel_rfl) rfl #[.int .i64 t388, .int .i64 t389, .int .i64 t390, .int .i64 t391] rfl (by (try simp only [List.map_toArray, List.map_cons, List.map_nil]); first | done | rfl | (simp only [List.length_drop, List.length_take]; rfl)) ?_; (with_reducible refine (jointerlaw01_sum.calls t388 t389 t390 t391 true _ A13.out).mono ?_); rintro e w' ⟨rfl, ⟨nd, rfl⟩⟩; refine ⟨_, rfl, ?_⟩) | ((with_reducible refine gate_callee (f := 32) rfl ?_); refine goesL_ (some 66) rfl rfl Tryz.func32 (by kernel_rfl) rfl #[.int .i64 a0, .int .i64 a1] rfl (by (try simp only [List.map_toArray, List.map_cons, List.map_nil]); first | done | rfl | (simp only [List.length_drop, List.length_take]; rfl)) ?_; (with_reducible refine (value_Div.calls a0 a1 t393 t394 _ A15.out).mono ?_); rintro e w' ⟨rfl, ⟨nd, rfl⟩⟩; refine ⟨_, rfl, ?_⟩) | ((with_reducible refine gate_callee (f := 33) rfl ?_); refine goesL_ (some 72) rfl rfl Tryz.func33 (by kernel_rfl) rfl #[.int .i64 a0, .int .i64 a1] rfl (by (try simp only [List.map_toArray, List.map_cons, List.map_nil]); first | done | rfl | (simp only [List.length_drop, List.length_take]; rfl)) ?_; (with_reducible refine (jointerref01_Div.calls a0 a1 t395 t396 _ A16.out).mono ?_); rintro e w' ⟨rfl, ⟨nd, rfl⟩⟩; refine ⟨_, rfl, ?_⟩) | ((with_reducible refine gate_callee (f := 27) rfl ?_); refine goesL_ (some 79) rfl rfl Tryz.func27 (by kernel_rfl) rfl #[.int .i64 t393, .int .i64 t394, .int .i64 t395, .int .i64 t396] rfl (by (try simp only [List.map_toArray, List.map_cons, List.map_nil]); first | done | rfl | (simp only [List.length_drop, List.length_take]; rfl)) ?_; (with_reducible refine (jointerlaw01_sum.calls t393 t394 t395 t396 true _ A17.out).mono ?_); rintro e w' ⟨rfl, ⟨nd, rfl⟩⟩; refine ⟨_, rfl, ?_⟩) | ((with_reducible refine gate_callee (f := 34) rfl ?_); refine goesL_ (some 84) rfl rfl Tryz.func34 (by kernel_rfl) rfl #[.int .i64 a0, .int .i64 a1] rfl (by (try simp only [List.map_toArray, List.map_cons, List.map_nil]); first | done | rfl | (simp only [List.length_drop, List.length_take]; rfl)) ?_; (with_reducible refine (value_Mod.calls a0 a1 t398 t399 _ A19.out).mono ?_); rintro e w' ⟨rfl, ⟨nd, rfl⟩⟩; refine ⟨_, rfl, ?_⟩) | ((with_reducible refine gate_callee (f := 35) rfl ?_); refine goesL_ (some 90) rfl rfl Tryz.func35 (by kernel_rfl) rfl #[.int .i64 a0, .int .i64 a1] rfl (by (try simp only [List.map_toArray, List.map_cons, List.map_nil]); first | done | rfl | (simp only [List.length_drop, List.length_take]; rfl)) ?_; (with_reducible refine (jointerref01_Mod.calls a0 a1 t400 t401 _ A20.out).mono ?_); rintro e w' ⟨rfl, ⟨nd, rfl⟩⟩; refine ⟨_, rfl, ?_⟩) | ((with_reducible refine gate_callee (f := 27) rfl ?_); refine goesL_ (some 97) rfl rfl Tryz.func27 (by kernel_rfl) rfl #[.int .i64 t398, .int .i64 t399, .int .i64 t400, .int .i64 t401] rfl (by (try simp only [List.map_toArray, List.map_cons, List.map_nil]); first | done | rfl | (simp only [List.length_drop, List.length_take]; rfl)) ?_; (with_reducible refine (jointerlaw01_sum.calls t398 t399 t400 t401 true _ A21.out).mono ?_); rintro e w' ⟨rfl, ⟨nd, rfl⟩⟩; refine ⟨_, rfl, ?_⟩) | (go_at_call 14; (with_reducible refine (jointerlaw01_awake.calls k  t403 _ A23.out (LaidV.below HL (by repeat (first | (with_reducible first | exact HB.out | apply below_alloc | apply pw_below_drewN | apply below_drew1) | exact HB.out)))).mono ?_); rintro e w24 ⟨rfl, hb⟩; have n0_ := Aside0.mk (below_step (by repeat (first | (with_reducible first | exact HB.out | apply below_alloc | apply pw_below_drewN | apply below_drew1) | exact HB.out)) hb); clear HB; have HB := n0_; clear n0_; (try clear hb); (try clear hb2); (try clear hk); (try clear hi)))
            go_ret
            exact ⟨by first | rfl | (simp [errW_none, errW_some] <;> rfl) | (simp [*, errW_none, errW_some] <;> rfl), by repeat (first | (with_reducible first | exact HB.out | apply below_alloc | apply pw_below_drewN | apply below_drew1) | exact HB.out)⟩
          · replace c22 := Bool.eq_false_iff.mpr c22
            subst c22
            have H1 : (some false) = some r := by rw [if_neg (show ¬ (false = true) by decide)] at H; exact H
            clear H
            have H := H1
            clear H1
            obtain rfl := Option.some.inj H
            exact absurd HR.out (by decide) -- leaf 2
        · replace c18 := Bool.eq_false_iff.mpr c18
          subst c18
          have H1 : (some false) = some r := by rw [if_neg (show ¬ (false = true) by decide)] at H; exact H
          clear H
          have H := H1
          clear H1
          obtain rfl := Option.some.inj H
          exact absurd HR.out (by decide) -- leaf 3
      · replace c14 := Bool.eq_false_iff.mpr c14
        subst c14
        have H1 : (some false) = some r := by rw [if_neg (show ¬ (false = true) by decide)] at H; exact H
        clear H
        have H := H1
        clear H1
        obtain rfl := Option.some.inj H
        exact absurd HR.out (by decide) -- leaf 4
    · replace c10 := Bool.eq_false_iff.mpr c10
      subst c10
      have H1 : (some false) = some r := by rw [if_neg (show ¬ (false = true) by decide)] at H; exact H
      clear H
      have H := H1
      clear H1
      obtain rfl := Option.some.inj H
      exact absurd HR.out (by decide) -- leaf 5
  · replace c6 := Bool.eq_false_iff.mpr c6
    subst c6
    have H1 : (some false) = some r := by rw [if_neg (show ¬ (false = true) by decide)] at H; exact H
    clear H
    have H := H1
    clear H1
    obtain rfl := Option.some.inj H
    exact absurd HR.out (by decide) -- leaf 6
/-- THE ONE PURE STATEMENT of jointerlaw01_ValueSums: yours. -/
def jointerlaw01_ValueSums.Pure : Prop := ∀ (a0 : Int) (a1 : Int), (Lit.int .i64 a0).wf = true → (Lit.int .i64 a1).wf = true → ∃ k, jointerlaw01_ValueSums.f k a0 a1 = some true
theorem jointerlaw01_ValueSums.walk (P : jointerlaw01_ValueSums.Pure) (a0 : Int) (a1 : Int) (w : World) (w0 : (Lit.int .i64 a0).wf = true) (w1 : (Lit.int .i64 a1).wf = true) (hL : LaidV w) :
    Calls Tryz.prog 10 #[.int .i64 a0, .int .i64 a1] w fun e w' => e = .returned (.bool true) ∧ Below w.heap.size w w' := by
  obtain ⟨k, h⟩ := P a0 a1 w0 w1
  refine (jointerlaw01_ValueSums.calls k a0 a1 true w rfl h hL).mono ?_
  rintro e w' ⟨rfl, hd⟩
  exact ⟨rfl, hd⟩

end Go.Proofs.YtafdoogghalpjaaGreatDoor.PAll
