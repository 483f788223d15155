import Derived.Test.YtaibkpbiccibjaaDoorLAwake
import Derived.Test.YtaibkpbiccibjaaDoorLFe
import Derived.Test.YtaibkpbiccibjaaDoorLFi
namespace Go.Proofs.YtaibkpbiccibjaaDoor.PAll
open Go.RowKit Go.Proofs.YtaibkpbiccibjaaDoorW.PrintWords Go.Proofs.YtaibkpbiccibjaaDoorW.PrintLast Go.Proofs.YtaibkpbiccibjaaDoorW.PrintMore
attribute [local go_sem] max2_int min2_int max_two min_two max_three min_three max_four min_four   -- for this text's walks alone
set_option linter.unusedVariables false
set_option linter.unusedSimpArgs false

/-! ### jointerlaw02_LexNames: function 7 -/
def jointerlaw02_LexNames.j0 : Nat → ByteArray → Bool → Option (Bool)
  | 0, _, _ => none
  | k + 1, x0, x25 => if x25 = true then (some false) else ((lex_Tokens.f x0).bind fun bt308 => ((lex_IsName.f k x0).bind fun t313 => (if t313 = true then (if bt308.2.2 = 0 then (if (bt308.1.length : Int) = 1 then (if 0 < (bt308.1.length : Int) then (if ((rd_T33 bt308.1 0).f0) = 2 then (if ((rd_T33 bt308.1 0).f1).toList = x0.toList then ((jointerlaw02_awake.f).bind fun t316 => (some t316)) else (some false)) else (some false)) else (none)) else (some false)) else (some false)) else ((jointerlaw02_awake.f).bind fun t317 => (some t317)))))
def jointerlaw02_LexNames.f (k : Nat) (a0 : ByteArray) : Option (Bool) := (lex_IsName.f k a0).bind fun t302 => ((jointerref02_IsName.f k a0).bind fun t303 => (if (t302 != t303) = true then (jointerlaw02_LexNames.j0 k a0 true) else ((lex_IsKeyword.f a0).bind fun t304 => ((jointerref02_IsKeyword.f k a0).bind fun t305 => (if (t304 != t305) = true then (jointerlaw02_LexNames.j0 k a0 true) else ((lex_IsName.f k a0).bind fun t306 => (if t306 = true then ((lex_IsKeyword.f a0).bind fun t307 => (jointerlaw02_LexNames.j0 k a0 t307)) else (jointerlaw02_LexNames.j0 k a0 false))))))))
theorem jointerlaw02_LexNames.mono_l : ∀ k, (∀ y0 y1, LeO (jointerlaw02_LexNames.j0 k y0 y1) (jointerlaw02_LexNames.j0 (k + 1) y0 y1))
  | 0 => fun _ _ r h => by simp [jointerlaw02_LexNames.j0] at h
  | k + 1 => by
    have ih0 := jointerlaw02_LexNames.mono_l k
    · intro y0 y1
      unfold jointerlaw02_LexNames.j0
      repeat' first
      | (with_reducible exact ih0 _ _)
      | (with_reducible exact jointerref02_IsKeyword.mono _ _)
      | (with_reducible exact jointerref02_IsName.mono _ _)
      | (with_reducible exact lex_IsName.mono _ _)
      | (with_reducible exact LeO.refl _)
      | (with_reducible exact LeO.none _)
      | (with_reducible refine LeO.ite ?_ ?_)
      | (with_reducible refine LeO.bind ?_ (fun _ => ?_))
      | exact ih0 _ _
      | exact jointerref02_IsKeyword.mono _ _
      | exact jointerref02_IsName.mono _ _
      | exact lex_IsName.mono _ _
      | exact LeO.none _
      | refine LeO.ite ?_ ?_
      | refine LeO.bind ?_ (fun _ => ?_)
theorem jointerlaw02_LexNames.mono : ∀ a0 k, LeO (jointerlaw02_LexNames.f k a0) (jointerlaw02_LexNames.f (k + 1) a0) := by
  intro a0 k
  have ih0 := jointerlaw02_LexNames.mono_l k
  unfold jointerlaw02_LexNames.f
  repeat' first
      | (with_reducible exact ih0 _ _)
      | (with_reducible exact jointerref02_IsKeyword.mono _ _)
      | (with_reducible exact jointerref02_IsName.mono _ _)
      | (with_reducible exact lex_IsName.mono _ _)
      | (with_reducible exact LeO.refl _)
      | (with_reducible exact LeO.none _)
      | (with_reducible refine LeO.ite ?_ ?_)
      | (with_reducible refine LeO.bind ?_ (fun _ => ?_))
      | exact ih0 _ _
      | exact jointerref02_IsKeyword.mono _ _
      | exact jointerref02_IsName.mono _ _
      | exact lex_IsName.mono _ _
      | exact LeO.none _
      | refine LeO.ite ?_ ?_
      | refine LeO.bind ?_ (fun _ => ?_)
set_option maxHeartbeats 8000000 in
set_option maxRecDepth 100000 in
theorem jointerlaw02_LexNames.calls (k : Nat) (a0 : ByteArray) (r : Bool) (w : World) (hr : r = true) (h : jointerlaw02_LexNames.f k a0 = some r) (hL : LaidL w) :
    Calls Tryd.prog 7 #[.string a0] w fun e w' => e = .returned (.bool r) ∧ Below w.heap.size w w' := by
  have HR := Aside0.mk hr
  clear hr
  have HL := Aside0.mk hL
  clear hL
  have HB := Aside0.mk (Below.refl w.heap.size w)
  have H : ((lex_IsName.f k a0).bind fun t302 => ((jointerref02_IsName.f k a0).bind fun t303 => (if (t302 != t303) = true then (jointerlaw02_LexNames.j0 k a0 true) else ((lex_IsKeyword.f a0).bind fun t304 => ((jointerref02_IsKeyword.f k a0).bind fun t305 => (if (t304 != t305) = true then (jointerlaw02_LexNames.j0 k a0 true) else ((lex_IsName.f k a0).bind fun t306 => (if t306 = true then ((lex_IsKeyword.f a0).bind fun t307 => (jointerlaw02_LexNames.j0 k a0 t307)) else (jointerlaw02_LexNames.j0 k a0 false))))))))) = some r := h
  clear h
  have HC2 := Aside0.mk H
  clear H
  go_enter Tryd.func7, Tryd.ntmps7
  go_upto_region 1 with (fail)
  go_cut [25] (fun v25 wc => ∃ (kq : Nat) (x25_1 : Bool), v25 = .bool x25_1 ∧ Aside0 (jointerlaw02_LexNames.j0 kq a0 x25_1 = some r) ∧ Aside0 (kq ≤ k) ∧ Aside0 (Below w.heap.size w wc))
  case first =>
    have H := HC2.out
    clear HC2
    replace H := Option.bind_eq_some_iff.mp H
    obtain ⟨t302, A30, H⟩ := H
    replace H : ((jointerref02_IsName.f k a0).bind fun t303 => (if (t302 != t303) = true then (jointerlaw02_LexNames.j0 k a0 true) else ((lex_IsKeyword.f a0).bind fun t304 => ((jointerref02_IsKeyword.f k a0).bind fun t305 => (if (t304 != t305) = true then (jointerlaw02_LexNames.j0 k a0 true) else ((lex_IsName.f k a0).bind fun t306 => (if t306 = true then ((lex_IsKeyword.f a0).bind fun t307 => (jointerlaw02_LexNames.j0 k a0 t307)) else (jointerlaw02_LexNames.j0 k a0 false)))))))) = some r := H
    have A3 := Aside0.mk A30
    clear A30
    replace H := Option.bind_eq_some_iff.mp H
    obtain ⟨t303, A40, H⟩ := H
    replace H : (if (t302 != t303) = true then (jointerlaw02_LexNames.j0 k a0 true) else ((lex_IsKeyword.f a0).bind fun t304 => ((jointerref02_IsKeyword.f k a0).bind fun t305 => (if (t304 != t305) = true then (jointerlaw02_LexNames.j0 k a0 true) else ((lex_IsName.f k a0).bind fun t306 => (if t306 = true then ((lex_IsKeyword.f a0).bind fun t307 => (jointerlaw02_LexNames.j0 k a0 t307)) else (jointerlaw02_LexNames.j0 k a0 false))))))) = some r := H
    have A4 := Aside0.mk A40
    clear A40
    by_cases c5 : (t302 != t303) = true
    · rw [if_pos c5] at H
      have c5b0 : (t302 != t303) = true := c5
      (try (have c5b1 : decide (t302 = t303) = false := by simpa using c5))
      (try (have c5b2 : (t302 == t303) = false := by simpa using c5))
      (try (have c5b3 : ¬ (t302 = t303) := by simpa using c5))
      clear c5
      (first | rw [c5b0] | (simp only [i64_w, i32_w]; rw [c5b0]) | skip)
      have H' := Aside0.mk H
      clear H
      go_wp2_with (first | ((with_reducible refine gate_callee (f := 15) rfl ?_); refine goesL_ (some 7) rfl rfl Tryd.func15 (by kernel_rfl) rfl #[.string a0] rfl (by (try simp only [List.map_toArray, List.map_cons, List.map_nil]); first | done | rfl | (simp only [List.length_drop, List.length_take]; rfl)) ?_; (with_reducible refine (lex_IsName.calls k a0 t302 _ A3.out (LaidL.below HL (by repeat (first | (with_reducible first | exact HB.out | apply below_alloc | apply pw_below_drewN | apply below_drew1) | exact HB.out)))).mono ?_); rintro e w6 ⟨rfl, hb⟩; refine ⟨_, rfl, ?_⟩; have n0_ := Aside0.mk (below_step (by repeat (first | (with_reducible first | exact HB.out | apply below_alloc | apply pw_below_drewN | apply below_drew1) | exact HB.out)) hb); clear HB; have HB := n0_; clear n0_; (try clear hb); (try clear hb2); (try clear hk); (try clear hi)) | ((with_reducible refine gate_callee (f := 16) rfl ?_); refine goesL_ (some 9) rfl rfl Tryd.func16 (by kernel_rfl) rfl #[.string a0] rfl (by (try simp only [List.map_toArray, List.map_cons, List.map_nil]); first | done | rfl | (simp only [List.length_drop, List.length_take]; rfl)) ?_; (with_reducible refine (jointerref02_IsName.calls k a0 t303 _ A4.out).mono ?_); rintro e w7 ⟨rfl, hb⟩; refine ⟨_, rfl, ?_⟩; have n0_ := Aside0.mk (below_step (by repeat (first | (with_reducible first | exact HB.out | apply below_alloc | apply pw_below_drewN | apply below_drew1) | exact HB.out)) hb); clear HB; have HB := n0_; clear n0_; (try clear hb); (try clear hb2); (try clear hk); (try clear hi)))
      go_meet
      case rel => exact ⟨_, (true), (by first | rfl | (simp; done) | (simp [*]; done)), H', ⟨by first | omega | exact Nat.le_refl _⟩, ⟨by repeat (first | (with_reducible first | exact HB.out | apply below_alloc | apply pw_below_drewN | apply below_drew1) | exact HB.out)⟩⟩
    · rw [if_neg c5] at H
      have c5b0 : (t302 != t303) = false := by simpa using c5
      (try (have c5b1 : decide (t302 = t303) = true := by simpa using c5))
      (try (have c5b2 : (t302 == t303) = true := by simpa using c5))
      clear c5
      (first | rw [c5b0] | (simp only [i64_w, i32_w]; rw [c5b0]) | skip)
      replace H := Option.bind_eq_some_iff.mp H
      obtain ⟨t304, A80, H⟩ := H
      replace H : ((jointerref02_IsKeyword.f k a0).bind fun t305 => (if (t304 != t305) = true then (jointerlaw02_LexNames.j0 k a0 true) else ((lex_IsName.f k a0).bind fun t306 => (if t306 = true then ((lex_IsKeyword.f a0).bind fun t307 => (jointerlaw02_LexNames.j0 k a0 t307)) else (jointerlaw02_LexNames.j0 k a0 false))))) = some r := H
      have A8 := Aside0.mk A80
      clear A80
      replace H := Option.bind_eq_some_iff.mp H
      obtain ⟨t305, A90, H⟩ := H
      replace H : (if (t304 != t305) = true then (jointerlaw02_LexNames.j0 k a0 true) else ((lex_IsName.f k a0).bind fun t306 => (if t306 = true then ((lex_IsKeyword.f a0).bind fun t307 => (jointerlaw02_LexNames.j0 k a0 t307)) else (jointerlaw02_LexNames.j0 k a0 false)))) = some r := H
      have A9 := Aside0.mk A90
      clear A90
      by_cases c10 : (t304 != t305) = true
      · rw [if_pos c10] at H
        have c10b0 : (t304 != t305) = true := c10
        (try (have c10b1 : decide (t304 = t305) = false := by simpa using c10))
        (try (have c10b2 : (t304 == t305) = false := by simpa using c10))
        (try (have c10b3 : ¬ (t304 = t305) := by simpa using c10))
        clear c10
        have H' := Aside0.mk H
        clear H
        go_wp2_with (first | ((with_reducible refine gate_callee (f := 15) rfl ?_); refine goesL_ (some 7) rfl rfl Tryd.func15 (by kernel_rfl) rfl #[.string a0] rfl (by (try simp only [List.map_toArray, List.map_cons, List.map_nil]); first | done | rfl | (simp only [List.length_drop, List.length_take]; rfl)) ?_; (with_reducible refine (lex_IsName.calls k a0 t302 _ A3.out (LaidL.below HL (by repeat (first | (with_reducible first | exact HB.out | apply below_alloc | apply pw_below_drewN | apply below_drew1) | exact HB.out)))).mono ?_); rintro e w11 ⟨rfl, hb⟩; refine ⟨_, rfl, ?_⟩; have n0_ := Aside0.mk (below_step (by repeat (first | (with_reducible first | exact HB.out | apply below_alloc | apply pw_below_drewN | apply below_drew1) | exact HB.out)) hb); clear HB; have HB := n0_; clear n0_; (try clear hb); (try clear hb2); (try clear hk); (try clear hi)) | ((with_reducible refine gate_callee (f := 16) rfl ?_); refine goesL_ (some 9) rfl rfl Tryd.func16 (by kernel_rfl) rfl #[.string a0] rfl (by (try simp only [List.map_toArray, List.map_cons, List.map_nil]); first | done | rfl | (simp only [List.length_drop, List.length_take]; rfl)) ?_; (with_reducible refine (jointerref02_IsName.calls k a0 t303 _ A4.out).mono ?_); rintro e w12 ⟨rfl, hb⟩; refine ⟨_, rfl, ?_⟩; have n0_ := Aside0.mk (below_step (by repeat (first | (with_reducible first | exact HB.out | apply below_alloc | apply pw_below_drewN | apply below_drew1) | exact HB.out)) hb); clear HB; have HB := n0_; clear n0_; (try clear hb); (try clear hb2); (try clear hk); (try clear hi)) | (go_at_call 17; (with_reducible refine (lex_IsKeyword.calls a0 t304 _ A8.out (LaidL.below HL (by repeat (first | (with_reducible first | exact HB.out | apply below_alloc | apply pw_below_drewN | apply below_drew1) | exact HB.out)))).mono ?_); rintro e w13 ⟨rfl, hb⟩; have n0_ := Aside0.mk (below_step (by repeat (first | (with_reducible first | exact HB.out | apply below_alloc | apply pw_below_drewN | apply below_drew1) | exact HB.out)) hb); clear HB; have HB := n0_; clear n0_; (try clear hb); (try clear hb2); (try clear hk); (try clear hi)) | (go_at_call 18; (with_reducible refine (jointerref02_IsKeyword.calls k a0 t305 _ A9.out).mono ?_); rintro e w' ⟨rfl, ⟨nd, rfl⟩⟩))
        go_meet
        case rel => exact ⟨_, (true), (by first | rfl | (simp; done) | (simp [*]; done)), H', ⟨by first | omega | exact Nat.le_refl _⟩, ⟨by repeat (first | (with_reducible first | exact HB.out | apply below_alloc | apply pw_below_drewN | apply below_drew1) | exact HB.out)⟩⟩
      · rw [if_neg c10] at H
        have c10b0 : (t304 != t305) = false := by simpa using c10
        (try (have c10b1 : decide (t304 = t305) = true := by simpa using c10))
        (try (have c10b2 : (t304 == t305) = true := by simpa using c10))
        clear c10
        replace H := Option.bind_eq_some_iff.mp H
        obtain ⟨t306, A140, H⟩ := H
        replace H : (if t306 = true then ((lex_IsKeyword.f a0).bind fun t307 => (jointerlaw02_LexNames.j0 k a0 t307)) else (jointerlaw02_LexNames.j0 k a0 false)) = some r := H
        have A14 := Aside0.mk A140
        have e14 : t306 = t302 := Option.some.inj (A140.symm.trans A3.out)
        subst e14
        clear A140
        by_cases c15 : t306 = true
        · subst c15
          have H1 : ((lex_IsKeyword.f a0).bind fun t307 => (jointerlaw02_LexNames.j0 k a0 t307)) = some r := by rw [if_pos rfl] at H; exact H
          clear H
          have H := H1
          clear H1
          replace H := Option.bind_eq_some_iff.mp H
          obtain ⟨t307, A160, H⟩ := H
          replace H : (jointerlaw02_LexNames.j0 k a0 t307) = some r := H
          have A16 := Aside0.mk A160
          have e16 : t307 = t304 := Option.some.inj (A160.symm.trans A8.out)
          subst e16
          clear A160
          have H' := Aside0.mk H
          clear H
          go_wp2_with (first | ((with_reducible refine gate_callee (f := 15) rfl ?_); refine goesL_ (some 7) rfl rfl Tryd.func15 (by kernel_rfl) rfl #[.string a0] rfl (by (try simp only [List.map_toArray, List.map_cons, List.map_nil]); first | done | rfl | (simp only [List.length_drop, List.length_take]; rfl)) ?_; (with_reducible refine (lex_IsName.calls k a0 t302 _ A3.out (LaidL.below HL (by repeat (first | (with_reducible first | exact HB.out | apply below_alloc | apply pw_below_drewN | apply below_drew1) | exact HB.out)))).mono ?_); rintro e w17 ⟨rfl, hb⟩; refine ⟨_, rfl, ?_⟩; have n0_ := Aside0.mk (below_step (by repeat (first | (with_reducible first | exact HB.out | apply below_alloc | apply pw_below_drewN | apply below_drew1) | exact HB.out)) hb); clear HB; have HB := n0_; clear n0_; (try clear hb); (try clear hb2); (try clear hk); (try clear hi)) | ((with_reducible refine gate_callee (f := 16) rfl ?_); refine goesL_ (some 9) rfl rfl Tryd.func16 (by kernel_rfl) rfl #[.string a0] rfl (by (try simp only [List.map_toArray, List.map_cons, List.map_nil]); first | done | rfl | (simp only [List.length_drop, List.length_take]; rfl)) ?_; (with_reducible refine (jointerref02_IsName.calls k a0 t303 _ A4.out).mono ?_); rintro e w18 ⟨rfl, hb⟩; refine ⟨_, rfl, ?_⟩; have n0_ := Aside0.mk (below_step (by repeat (first | (with_reducible first | exact HB.out | apply below_alloc | apply pw_below_drewN | apply below_drew1) | exact HB.out)) hb); clear HB; have HB := n0_; clear n0_; (try clear hb); (try clear hb2); (try clear hk); (try clear hi)) | (go_at_call 17; (with_reducible refine (lex_IsKeyword.calls a0 t304 _ A8.out (LaidL.below HL (by repeat (first | (with_reducible first | exact HB.out | apply below_alloc | apply pw_below_drewN | apply below_drew1) | exact HB.out)))).mono ?_); rintro e w19 ⟨rfl, hb⟩; have n0_ := Aside0.mk (below_step (by repeat (first | (with_reducible first | exact HB.out | apply below_alloc | apply pw_below_drewN | apply below_drew1) | exact HB.out)) hb); clear HB; have HB := n0_; clear n0_; (try clear hb); (try clear hb2); (try clear hk); (try clear hi)) | (go_at_call 18; (with_reducible refine (jointerref02_IsKeyword.calls k a0 t305 _ A9.out).mono ?_); rintro e w' ⟨rfl, ⟨nd, rfl⟩⟩) | (go_at_call 15; (with_reducible refine (lex_IsName.calls k a0 true _ A14.out (LaidL.below HL (by repeat (first | (with_reducible first | exact HB.out | apply below_alloc | apply pw_below_drewN | apply below_drew1) | exact HB.out)))).mono ?_); rintro e w20 ⟨rfl, hb⟩; have n0_ := Aside0.mk (below_step (by repeat (first | (with_reducible first | exact HB.out | apply below_alloc | apply pw_below_drewN | apply below_drew1) | exact HB.out)) hb); clear HB; have HB := n0_; clear n0_; (try clear hb); (try clear hb2); (try clear hk); (try clear hi)) | (go_at_call 17; (with_reducible refine (lex_IsKeyword.calls a0 t307 _ A16.out (LaidL.below HL (by repeat (first | (with_reducible first | exact HB.out | apply below_alloc | apply pw_below_drewN | apply below_drew1) | exact HB.out)))).mono ?_); rintro e w21 ⟨rfl, hb⟩; have n0_ := Aside0.mk (below_step (by repeat (first | (with_reducible first | exact HB.out | apply below_alloc | apply pw_below_drewN | apply below_drew1) | exact HB.out)) hb); clear HB; have HB := n0_; clear n0_; (try clear hb); (try clear hb2); (try clear hk); (try clear hi)))
          go_meet
          case rel => exact ⟨_, (t307), (by first | rfl | (simp; done) | (simp [*]; done)), H', ⟨by first | omega | exact Nat.le_refl _⟩, ⟨by repeat (first | (with_reducible first | exact HB.out | apply below_alloc | apply pw_below_drewN | apply below_drew1) | exact HB.out)⟩⟩
        · replace c15 := Bool.eq_false_iff.mpr c15
          subst c15
          have H1 : (jointerlaw02_LexNames.j0 k a0 false) = some r := by rw [if_neg (show ¬ (false = true) by decide)] at H; exact H
          clear H
          have H := H1
          clear H1
          have H' := Aside0.mk H
          clear H
          go_wp2_with (first | ((with_reducible refine gate_callee (f := 15) rfl ?_); refine goesL_ (some 7) rfl rfl Tryd.func15 (by kernel_rfl) rfl #[.string a0] rfl (by (try simp only [List.map_toArray, List.map_cons, List.map_nil]); first | done | rfl | (simp only [List.length_drop, List.length_take]; rfl)) ?_; (with_reducible refine (lex_IsName.calls k a0 t302 _ A3.out (LaidL.below HL (by repeat (first | (with_reducible first | exact HB.out | apply below_alloc | apply pw_below_drewN | apply below_drew1) | exact HB.out)))).mono ?_); rintro e w22 ⟨rfl, hb⟩; refine ⟨_, rfl, ?_⟩; have n0_ := Aside0.mk (below_step (by repeat (first | (with_reducible first | exact HB.out | apply below_alloc | apply pw_below_drewN | apply below_drew1) | exact HB.out)) hb); clear HB; have HB := n0_; clear n0_; (try clear hb); (try clear hb2); (try clear hk); (try clear hi)) | ((with_reducible refine gate_callee (f := 16) rfl ?_); refine goesL_ (some 9) rfl rfl Tryd.func16 (by kernel_rfl) rfl #[.string a0] rfl (by (try simp only [List.map_toArray, List.map_cons, List.map_nil]); first | done | rfl | (simp only [List.length_drop, List.length_take]; rfl)) ?_; (with_reducible refine (jointerref02_IsName.calls k a0 t303 _ A4.out).mono ?_); rintro e w23 ⟨rfl, hb⟩; refine ⟨_, rfl, ?_⟩; have n0_ := Aside0.mk (below_step (by repeat (first | (with_reducible first | exact HB.out | apply below_alloc | apply pw_below_drewN | apply below_drew1) | exact HB.out)) hb); clear HB; have HB := n0_; clear n0_; (try clear hb); (try clear hb2); (try clear hk); (try clear hi)) | (go_at_call 17; (with_reducible refine (lex_IsKeyword.calls a0 t304 _ A8.out (LaidL.below HL (by repeat (first | (with_reducible first | exact HB.out | apply below_alloc | apply pw_below_drewN | apply below_drew1) | exact HB.out)))).mono ?_); rintro e w24 ⟨rfl, hb⟩; have n0_ := Aside0.mk (below_step (by repeat (first | (with_reducible first | exact HB.out | apply below_alloc | apply pw_below_drewN | apply below_drew1) | exact HB.out)) hb); clear HB; have HB := n0_; clear n0_; (try clear hb); (try clear hb2); (try clear hk); (try clear hi)) | (go_at_call 18; (with_reducible refine (jointerref02_IsKeyword.calls k a0 t305 _ A9.out).mono ?_); rintro e w' ⟨rfl, ⟨nd, rfl⟩⟩) | (go_at_call 15; (with_reducible refine (lex_IsName.calls k a0 false _ A14.out (LaidL.below HL (by repeat (first | (with_reducible first | exact HB.out | apply below_alloc | apply pw_below_drewN | apply below_drew1) | exact HB.out)))).mono ?_); rintro e w25 ⟨rfl, hb⟩; have n0_ := Aside0.mk (below_step (by repeat (first | (with_reducible first | exact HB.out | apply below_alloc | apply pw_below_drewN | apply below_drew1) | exact HB.out)) hb); clear HB; have HB := n0_; clear n0_; (try clear hb); (try clear hb2); (try clear hk); (try clear hi)))
          go_meet
          case rel => exact ⟨_, (false), (by first | rfl | (simp; done) | (simp [*]; done)), H', ⟨by first | omega | exact Nat.le_refl _⟩, ⟨by repeat (first | (with_reducible first | exact HB.out | apply below_alloc | apply pw_below_drewN | apply below_drew1) | exact HB.out)⟩⟩
  case rest =>
    clear HC2
    try clear c1
    try clear p2
    try clear c5
    try clear c5b0
    try clear c5b1
    try clear c5b2
    try clear c7
    try clear c10
    try clear c10b0
    try clear c10b1
    try clear c10b2
    try clear c15
    try clear c16
    obtain ⟨kq, x25_1, rfl, HA, HJ1, HB⟩ := hcut
    cases kq with
    | zero => exact absurd HA.out (by simp [jointerlaw02_LexNames.j0])
    | succ kj1 =>
      have H := HA.out
      clear HA
      simp only [jointerlaw02_LexNames.j0] at H
      by_cases c26 : x25_1 = true
      · subst c26
        have H1 : (some false) = some r := by rw [if_pos rfl] at H; exact H
        clear H
        have H := H1
        clear H1
        obtain rfl := Option.some.inj H
        exact absurd HR.out (by decide) -- leaf 1
      · replace c26 := Bool.eq_false_iff.mpr c26
        subst c26
        have H1 : ((lex_Tokens.f a0).bind fun bt308 => ((lex_IsName.f kj1 a0).bind fun t313 => (if t313 = true then (if bt308.2.2 = 0 then (if (bt308.1.length : Int) = 1 then (if 0 < (bt308.1.length : Int) then (if ((rd_T33 bt308.1 0).f0) = 2 then (if ((rd_T33 bt308.1 0).f1).toList = a0.toList then ((jointerlaw02_awake.f).bind fun t316 => (some t316)) else (some false)) else (some false)) else (none)) else (some false)) else (some false)) else ((jointerlaw02_awake.f).bind fun t317 => (some t317))))) = some r := by rw [if_neg (show ¬ (false = true) by decide)] at H; exact H
        clear H
        have H := H1
        clear H1
        replace H := Option.bind_eq_some_iff.mp H
        obtain ⟨⟨t308, t309, t310⟩, A270, H⟩ := H
        replace H : ((lex_IsName.f kj1 a0).bind fun t313 => (if t313 = true then (if t310 = 0 then (if (t308.length : Int) = 1 then (if 0 < (t308.length : Int) then (if ((rd_T33 t308 0).f0) = 2 then (if ((rd_T33 t308 0).f1).toList = a0.toList then ((jointerlaw02_awake.f).bind fun t316 => (some t316)) else (some false)) else (some false)) else (none)) else (some false)) else (some false)) else ((jointerlaw02_awake.f).bind fun t317 => (some t317)))) = some r := H
        have A27 := Aside0.mk A270
        clear A270
        replace H := Option.bind_eq_some_iff.mp H
        obtain ⟨t313, A280, H⟩ := H
        replace H : (if t313 = true then (if t310 = 0 then (if (t308.length : Int) = 1 then (if 0 < (t308.length : Int) then (if ((rd_T33 t308 0).f0) = 2 then (if ((rd_T33 t308 0).f1).toList = a0.toList then ((jointerlaw02_awake.f).bind fun t316 => (some t316)) else (some false)) else (some false)) else (none)) else (some false)) else (some false)) else ((jointerlaw02_awake.f).bind fun t317 => (some t317))) = some r := H
        have A28 := Aside0.mk A280
        clear A280
        by_cases c29 : t313 = true
        · subst c29
          have H1 : (if t310 = 0 then (if (t308.length : Int) = 1 then (if 0 < (t308.length : Int) then (if ((rd_T33 t308 0).f0) = 2 then (if ((rd_T33 t308 0).f1).toList = a0.toList then ((jointerlaw02_awake.f).bind fun t316 => (some t316)) else (some false)) else (some false)) else (none)) else (some false)) else (some false)) = some r := by rw [if_pos rfl] at H; exact H
          clear H
          have H := H1
          clear H1
          by_cases c30 : t310 = 0
          · rw [if_pos c30] at H
            have c30b0 : (t310 == 0) = true := beq_iff_eq.mpr c30
            have c30b1 : (t310 != 0) = false := bne_eq_false_iff_eq.mpr c30
            clear c30
            by_cases c31 : (t308.length : Int) = 1
            · rw [if_pos c31] at H
              have c31b0 : ((t308.length : Int) == 1) = true := beq_iff_eq.mpr c31
              have c31b1 : ((t308.length : Int) != 1) = false := bne_eq_false_iff_eq.mpr c31
              clear c31
              by_cases c32 : 0 < (t308.length : Int)
              · rw [if_pos c32] at H
                have c32b0 : decide (0 < (t308.length : Int)) = true := decide_eq_true c32
                have c32b1 : decide (0 < t308.length) = true := decide_eq_true (by omega)
                clear c32
                by_cases c33 : ((rd_T33 t308 0).f0) = 2
                · rw [if_pos c33] at H
                  have c33b0 : (((rd_T33 t308 0).f0) == 2) = true := beq_iff_eq.mpr c33
                  have c33b1 : (((rd_T33 t308 0).f0) != 2) = false := bne_eq_false_iff_eq.mpr c33
                  clear c33
                  by_cases c34 : ((rd_T33 t308 0).f1).toList = a0.toList
                  · rw [if_pos c34] at H
                    have c34b0 : (((rd_T33 t308 0).f1).toList == a0.toList) = true := beq_iff_eq.mpr c34
                    have c34b1 : (((rd_T33 t308 0).f1).toList != a0.toList) = false := bne_eq_false_iff_eq.mpr c34
                    clear c34
                    replace H := Option.bind_eq_some_iff.mp H
                    obtain ⟨t316, A350, H⟩ := H
                    replace H : (some t316) = some r := H
                    have A35 := Aside0.mk A350
                    clear A350
                    obtain rfl := Option.some.inj H
                    go_wp2_with (first | ((with_reducible refine gate_callee (f := 10) rfl ?_); refine goesL_ (some 28) rfl rfl Tryd.func10 (by kernel_rfl) rfl #[.string a0] rfl (by (try simp only [List.map_toArray, List.map_cons, List.map_nil]); first | done | rfl | (simp only [List.length_drop, List.length_take]; rfl)) ?_; (with_reducible refine (lex_Tokens.calls a0 t308 t309 t310 _ A27.out (LaidL.below HL (by repeat (first | (with_reducible first | exact HB.out | apply below_alloc | apply pw_below_drewN | apply below_drew1) | exact HB.out)))).mono ?_); rintro e w36 ⟨v311, rfl, ho0, hb⟩; refine ⟨_, rfl, ?_⟩; have n0_ := Aside0.mk (Kd.R_lower ho0 (below_size (by repeat (first | (with_reducible first | exact HB.out | apply below_alloc | apply pw_below_drewN | apply below_drew1) | exact HB.out)))); have n1_ := Aside0.mk (below_step (by repeat (first | (with_reducible first | exact HB.out | apply below_alloc | apply pw_below_drewN | apply below_drew1) | exact HB.out)) hb); clear HB; have HO312 := n0_; have HB := n1_; clear n0_ n1_; (try clear hb); (try clear hb2); (try clear hk); (try clear hi); (try clear ho0)) | ((with_reducible refine gate_callee (f := 15) rfl ?_); refine goesL_ (some 33) rfl rfl Tryd.func15 (by kernel_rfl) rfl #[.string a0] rfl (by (try simp only [List.map_toArray, List.map_cons, List.map_nil]); first | done | rfl | (simp only [List.length_drop, List.length_take]; rfl)) ?_; (with_reducible refine (lex_IsName.calls kj1 a0 true _ A28.out (LaidL.below HL (by repeat (first | (with_reducible first | exact HB.out | apply below_alloc | apply pw_below_drewN | apply below_drew1) | exact HB.out)))).mono ?_); rintro e w37 ⟨rfl, hb⟩; refine ⟨_, rfl, ?_⟩; have n0_ := Aside0.mk (Kd.R_below (by (with_reducible repeat (first | apply Kd.R_alloc | apply Kd.R_drewN | apply Kd.R_drew)); exact HO312.out) hb); have n1_ := Aside0.mk (below_step (by repeat (first | (with_reducible first | exact HB.out | apply below_alloc | apply pw_below_drewN | apply below_drew1) | exact HB.out)) hb); clear HO312; clear HB; have HO312 := n0_; have HB := n1_; clear n0_ n1_; (try clear hb); (try clear hb2); (try clear hk); (try clear hi); obtain ⟨Ao38, co38, eo38⟩ := Kd.R_slice HO312.out; subst eo38; have p314 : 0 ≤ (0 : Int) := (by omega); have q314 : 0 < (t308.length : Int) := of_decide_eq_true (by first | (with_reducible assumption) | assumption); obtain ⟨ad314, e314, hx314_0, hx314_1, hx314_2⟩ := at_T33 (Kd.R_reads' HO312.out).2.2 0 p314 q314; cases e314; have qi314 : (0 < t308.length) = True := eq_true (by omega); (try rw [show ((0 : Int)).toNat = 0 from rfl] at hx314_0); (try rw [show 0 * 3 = 0 from rfl] at hx314_0); (try rw [Addr.add_zero'] at hx314_0); (try rw [show ((0 : Int)).toNat = 0 from rfl] at hx314_1); (try rw [show 0 * 3 = 0 from rfl] at hx314_1); (try rw [Addr.add_zero'] at hx314_1); (try rw [show ((0 : Int)).toNat = 0 from rfl] at hx314_2); (try rw [show 0 * 3 = 0 from rfl] at hx314_2); (try rw [Addr.add_zero'] at hx314_2); replace p314 := eq_true p314; replace q314 := eq_true q314; have p315 : 0 ≤ (0 : Int) := (by omega); have q315 : 0 < (t308.length : Int) := of_decide_eq_true (by first | (with_reducible assumption) | assumption); obtain ⟨ad315, e315, hx315_0, hx315_1, hx315_2⟩ := at_T33 (Kd.R_reads' HO312.out).2.2 0 p315 q315; obtain rfl : ad314 = ad315 := (by injection e315); have qi315 : (0 < t308.length) = True := eq_true (by omega); (try rw [show ((0 : Int)).toNat = 0 from rfl] at hx315_0); (try rw [show 0 * 3 = 0 from rfl] at hx315_0); (try rw [Addr.add_zero'] at hx315_0); (try rw [show ((0 : Int)).toNat = 0 from rfl] at hx315_1); (try rw [show 0 * 3 = 0 from rfl] at hx315_1); (try rw [Addr.add_zero'] at hx315_1); (try rw [show ((0 : Int)).toNat = 0 from rfl] at hx315_2); (try rw [show 0 * 3 = 0 from rfl] at hx315_2); (try rw [Addr.add_zero'] at hx315_2); replace p315 := eq_true p315; replace q315 := eq_true q315) | ((with_reducible refine gate_callee (f := 12) rfl ?_); refine goesL_ (some 58) rfl rfl Tryd.func12 (by kernel_rfl) rfl #[] rfl (by (try simp only [List.map_toArray, List.map_cons, List.map_nil]); first | done | rfl | (simp only [List.length_drop, List.length_take]; rfl)) ?_; (with_reducible refine (jointerlaw02_awake.calls  t316 _ A35.out (LaidL.below HL (by repeat (first | (with_reducible first | exact HB.out | apply below_alloc | apply pw_below_drewN | apply below_drew1) | exact HB.out)))).mono ?_); rintro e w39 ⟨rfl, hb⟩; refine ⟨_, rfl, ?_⟩; have n0_ := Aside0.mk (Kd.R_below (by (with_reducible repeat (first | apply Kd.R_alloc | apply Kd.R_drewN | apply Kd.R_drew)); exact HO312.out) hb); have n1_ := Aside0.mk (below_step (by repeat (first | (with_reducible first | exact HB.out | apply below_alloc | apply pw_below_drewN | apply below_drew1) | exact HB.out)) hb); clear HO312; clear HB; have HO312 := n0_; have HB := n1_; clear n0_ n1_; (try clear hb); (try clear hb2); (try clear hk); (try clear hi)))
                    go_ret
                    exact ⟨by first | rfl | (simp [errW_none, errW_some] <;> rfl) | (simp [*, errW_none, errW_some] <;> rfl), by repeat (first | (with_reducible first | exact HB.out | apply below_alloc | apply pw_below_drewN | apply below_drew1) | exact HB.out)⟩
                  · rw [if_neg c34] at H
                    have c34b0 : (((rd_T33 t308 0).f1).toList == a0.toList) = false := beq_eq_false_iff_ne.mpr c34
                    have c34b1 : (((rd_T33 t308 0).f1).toList != a0.toList) = true := bne_iff_ne.mpr c34
                    obtain rfl := Option.some.inj H
                    exact absurd HR.out (by decide) -- leaf 3
                · rw [if_neg c33] at H
                  have c33b0 : (((rd_T33 t308 0).f0) == 2) = false := beq_eq_false_iff_ne.mpr c33
                  have c33b1 : (((rd_T33 t308 0).f0) != 2) = true := bne_iff_ne.mpr c33
                  obtain rfl := Option.some.inj H
                  exact absurd HR.out (by decide) -- leaf 4
              · rw [if_neg c32] at H
                exact absurd H (by simp)
            · rw [if_neg c31] at H
              have c31b0 : ((t308.length : Int) == 1) = false := beq_eq_false_iff_ne.mpr c31
              have c31b1 : ((t308.length : Int) != 1) = true := bne_iff_ne.mpr c31
              obtain rfl := Option.some.inj H
              exact absurd HR.out (by decide) -- leaf 5
          · rw [if_neg c30] at H
            have c30b0 : (t310 == 0) = false := beq_eq_false_iff_ne.mpr c30
            have c30b1 : (t310 != 0) = true := bne_iff_ne.mpr c30
            obtain rfl := Option.some.inj H
            exact absurd HR.out (by decide) -- leaf 6
        · replace c29 := Bool.eq_false_iff.mpr c29
          subst c29
          have H1 : ((jointerlaw02_awake.f).bind fun t317 => (some t317)) = some r := by rw [if_neg (show ¬ (false = true) by decide)] at H; exact H
          clear H
          have H := H1
          clear H1
          replace H := Option.bind_eq_some_iff.mp H
          obtain ⟨t317, A510, H⟩ := H
          replace H : (some t317) = some r := H
          have A51 := Aside0.mk A510
          clear A510
          obtain rfl := Option.some.inj H
          go_wp2_with (first | ((with_reducible refine gate_callee (f := 10) rfl ?_); refine goesL_ (some 28) rfl rfl Tryd.func10 (by kernel_rfl) rfl #[.string a0] rfl (by (try simp only [List.map_toArray, List.map_cons, List.map_nil]); first | done | rfl | (simp only [List.length_drop, List.length_take]; rfl)) ?_; (with_reducible refine (lex_Tokens.calls a0 t308 t309 t310 _ A27.out (LaidL.below HL (by repeat (first | (with_reducible first | exact HB.out | apply below_alloc | apply pw_below_drewN | apply below_drew1) | exact HB.out)))).mono ?_); rintro e w52 ⟨v311, rfl, ho0, hb⟩; refine ⟨_, rfl, ?_⟩; have n0_ := Aside0.mk (Kd.R_lower ho0 (below_size (by repeat (first | (with_reducible first | exact HB.out | apply below_alloc | apply pw_below_drewN | apply below_drew1) | exact HB.out)))); have n1_ := Aside0.mk (below_step (by repeat (first | (with_reducible first | exact HB.out | apply below_alloc | apply pw_below_drewN | apply below_drew1) | exact HB.out)) hb); clear HB; have HO312 := n0_; have HB := n1_; clear n0_ n1_; (try clear hb); (try clear hb2); (try clear hk); (try clear hi); (try clear ho0)) | ((with_reducible refine gate_callee (f := 15) rfl ?_); refine goesL_ (some 33) rfl rfl Tryd.func15 (by kernel_rfl) rfl #[.string a0] rfl (by (try simp only [List.map_toArray, List.map_cons, List.map_nil]); first | done | rfl | (simp only [List.length_drop, List.length_take]; rfl)) ?_; (with_reducible refine (lex_IsName.calls kj1 a0 false _ A28.out (LaidL.below HL (by repeat (first | (with_reducible first | exact HB.out | apply below_alloc | apply pw_below_drewN | apply below_drew1) | exact HB.out)))).mono ?_); rintro e w53 ⟨rfl, hb⟩; refine ⟨_, rfl, ?_⟩; have n0_ := Aside0.mk (Kd.R_below (by (with_reducible repeat (first | apply Kd.R_alloc | apply Kd.R_drewN | apply Kd.R_drew)); exact HO312.out) hb); have n1_ := Aside0.mk (below_step (by repeat (first | (with_reducible first | exact HB.out | apply below_alloc | apply pw_below_drewN | apply below_drew1) | exact HB.out)) hb); clear HO312; clear HB; have HO312 := n0_; have HB := n1_; clear n0_ n1_; (try clear hb); (try clear hb2); (try clear hk); (try clear hi)) | ((with_reducible refine gate_callee (f := 12) rfl ?_); refine goesL_ (some 58) rfl rfl Tryd.func12 (by kernel_rfl) rfl #[] rfl (by (try simp only [List.map_toArray, List.map_cons, List.map_nil]); first | done | rfl | (simp only [List.length_drop, List.length_take]; rfl)) ?_; (with_reducible refine (jointerlaw02_awake.calls  t317 _ A51.out (LaidL.below HL (by repeat (first | (with_reducible first | exact HB.out | apply below_alloc | apply pw_below_drewN | apply below_drew1) | exact HB.out)))).mono ?_); rintro e w54 ⟨rfl, hb⟩; refine ⟨_, rfl, ?_⟩; have n0_ := Aside0.mk (Kd.R_below (by (with_reducible repeat (first | apply Kd.R_alloc | apply Kd.R_drewN | apply Kd.R_drew)); exact HO312.out) hb); have n1_ := Aside0.mk (below_step (by repeat (first | (with_reducible first | exact HB.out | apply below_alloc | apply pw_below_drewN | apply below_drew1) | exact HB.out)) hb); clear HO312; clear HB; have HO312 := n0_; have HB := n1_; clear n0_ n1_; (try clear hb); (try clear hb2); (try clear hk); (try clear hi)))
          go_ret
          exact ⟨by first | rfl | (simp [errW_none, errW_some] <;> rfl) | (simp [*, errW_none, errW_some] <;> rfl), by repeat (first | (with_reducible first | exact HB.out | apply below_alloc | apply pw_below_drewN | apply below_drew1) | exact HB.out)⟩

/-- THE ONE PURE STATEMENT of jointerlaw02_LexNames: yours. -/
def jointerlaw02_LexNames.Pure : Prop := ∀ (a0 : ByteArray), a0.size ≤ 140737488351232 → ∃ k, jointerlaw02_LexNames.f k a0 = some true
theorem jointerlaw02_LexNames.walk (P : jointerlaw02_LexNames.Pure) (a0 : ByteArray) (w : World) (w0 : a0.size ≤ 140737488351232) (hL : LaidL w) :
    Calls Tryd.prog 7 #[.string a0] w fun e w' => e = .returned (.bool true) ∧ Below w.heap.size w w' := by
  obtain ⟨k, h⟩ := P a0 w0
  refine (jointerlaw02_LexNames.calls k a0 true w rfl h hL).mono ?_
  rintro e w' ⟨rfl, hd⟩
  exact ⟨rfl, hd⟩

-- NOT PRINTED: function 32 (lex_valid)

-- NOT PRINTED: function 84 (bytealg_IndexString)


end Go.Proofs.YtaibkpbiccibjaaDoor.PAll
