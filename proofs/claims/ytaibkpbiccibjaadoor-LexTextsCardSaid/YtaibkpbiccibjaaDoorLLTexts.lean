import Derived.Test.YtaibkpbiccibjaaDoorLAwake
import Derived.Test.YtaibkpbiccibjaaDoorLFe
namespace Go.Proofs.YtaibkpbiccibjaaDoor.PAll
open Go.RowKit Go.Proofs.YtaibkpbiccibjaaDoorW.PrintWords Go.Proofs.YtaibkpbiccibjaaDoorW.PrintLast Go.Proofs.YtaibkpbiccibjaaDoorW.PrintMore
attribute [local go_sem] max2_int min2_int max_two min_two max_three min_three max_four min_four   -- for this text's walks alone
set_option linter.unusedVariables false
set_option linter.unusedSimpArgs false

/-! ### jointerlaw02_LexTexts: function 6 -/
def jointerlaw02_LexTexts.f (k : Nat) (a0 : ByteArray) : Option (Bool) := (jointerlaw02_quoted.f k a0).bind fun t280 => ((lex_Tokens.f t280).bind fun bt281 => (if (t280.size : Int) > 4000 then (if bt281.2.2 = 2 then (if bt281.2.1 = 0 then (if (bt281.1.length : Int) = 0 then ((jointerlaw02_awake.f).bind fun t286 => (some t286)) else (some false)) else (some false)) else (some false)) else (if (a0.size : Int) > 100 then (if bt281.2.2 = 5 then (if bt281.2.1 = 0 then (if (bt281.1.length : Int) = 0 then ((jointerlaw02_awake.f).bind fun t287 => (some t287)) else (some false)) else (some false)) else (some false)) else (if bt281.2.2 = 0 then (if (bt281.1.length : Int) = 1 then (if 0 < (bt281.1.length : Int) then (if ((rd_T33 bt281.1 0).f0) = 4 then (if ((rd_T33 bt281.1 0).f1).toList = a0.toList then (if ((rd_T33 bt281.1 0).f2) = 0 then ((jointerlaw02_awake.f).bind fun t291 => (some t291)) else (some false)) else (some false)) else (some false)) else (none)) else (some false)) else (some false)))))
theorem jointerlaw02_LexTexts.mono : ∀ a0 k, LeO (jointerlaw02_LexTexts.f k a0) (jointerlaw02_LexTexts.f (k + 1) a0) := by
  intro a0 k
  unfold jointerlaw02_LexTexts.f
  repeat' first
      | (with_reducible exact jointerlaw02_quoted.mono _ _)
      | (with_reducible exact LeO.refl _)
      | (with_reducible exact LeO.none _)
      | (with_reducible refine LeO.ite ?_ ?_)
      | (with_reducible refine LeO.bind ?_ (fun _ => ?_))
      | exact jointerlaw02_quoted.mono _ _
      | exact LeO.none _
      | refine LeO.ite ?_ ?_
      | refine LeO.bind ?_ (fun _ => ?_)
set_option maxHeartbeats 8000000 in
set_option maxRecDepth 100000 in
theorem jointerlaw02_LexTexts.calls (k : Nat) (a0 : ByteArray) (r : Bool) (w : World) (hr : r = true) (h : jointerlaw02_LexTexts.f k a0 = some r) (hL : LaidL w) :
    Calls Tryd.prog 6 #[.string a0] w fun e w' => e = .returned (.bool r) ∧ Below w.heap.size w w' := by
  have HR := Aside0.mk hr
  clear hr
  have HL := Aside0.mk hL
  clear hL
  have HB := Aside0.mk (Below.refl w.heap.size w)
  have H : ((jointerlaw02_quoted.f k a0).bind fun t280 => ((lex_Tokens.f t280).bind fun bt281 => (if (t280.size : Int) > 4000 then (if bt281.2.2 = 2 then (if bt281.2.1 = 0 then (if (bt281.1.length : Int) = 0 then ((jointerlaw02_awake.f).bind fun t286 => (some t286)) else (some false)) else (some false)) else (some false)) else (if (a0.size : Int) > 100 then (if bt281.2.2 = 5 then (if bt281.2.1 = 0 then (if (bt281.1.length : Int) = 0 then ((jointerlaw02_awake.f).bind fun t287 => (some t287)) else (some false)) else (some false)) else (some false)) else (if bt281.2.2 = 0 then (if (bt281.1.length : Int) = 1 then (if 0 < (bt281.1.length : Int) then (if ((rd_T33 bt281.1 0).f0) = 4 then (if ((rd_T33 bt281.1 0).f1).toList = a0.toList then (if ((rd_T33 bt281.1 0).f2) = 0 then ((jointerlaw02_awake.f).bind fun t291 => (some t291)) else (some false)) else (some false)) else (some false)) else (none)) else (some false)) else (some false)))))) = some r := h
  clear h
  replace H := Option.bind_eq_some_iff.mp H
  obtain ⟨t280, A20, H⟩ := H
  replace H : ((lex_Tokens.f t280).bind fun bt281 => (if (t280.size : Int) > 4000 then (if bt281.2.2 = 2 then (if bt281.2.1 = 0 then (if (bt281.1.length : Int) = 0 then ((jointerlaw02_awake.f).bind fun t286 => (some t286)) else (some false)) else (some false)) else (some false)) else (if (a0.size : Int) > 100 then (if bt281.2.2 = 5 then (if bt281.2.1 = 0 then (if (bt281.1.length : Int) = 0 then ((jointerlaw02_awake.f).bind fun t287 => (some t287)) else (some false)) else (some false)) else (some false)) else (if bt281.2.2 = 0 then (if (bt281.1.length : Int) = 1 then (if 0 < (bt281.1.length : Int) then (if ((rd_T33 bt281.1 0).f0) = 4 then (if ((rd_T33 bt281.1 0).f1).toList = a0.toList then (if ((rd_T33 bt281.1 0).f2) = 0 then ((jointerlaw02_awake.f).bind fun t291 => (some t291)) else (some false)) else (some false)) else (some false)) else (none)) else (some false)) else (some false))))) = some r := H
  have A2 := Aside0.mk A20
  clear A20
  replace H := Option.bind_eq_some_iff.mp H
  obtain ⟨⟨t281, t282, t283⟩, A30, H⟩ := H
  replace H : (if (t280.size : Int) > 4000 then (if t283 = 2 then (if t282 = 0 then (if (t281.length : Int) = 0 then ((jointerlaw02_awake.f).bind fun t286 => (some t286)) else (some false)) else (some false)) else (some false)) else (if (a0.size : Int) > 100 then (if t283 = 5 then (if t282 = 0 then (if (t281.length : Int) = 0 then ((jointerlaw02_awake.f).bind fun t287 => (some t287)) else (some false)) else (some false)) else (some false)) else (if t283 = 0 then (if (t281.length : Int) = 1 then (if 0 < (t281.length : Int) then (if ((rd_T33 t281 0).f0) = 4 then (if ((rd_T33 t281 0).f1).toList = a0.toList then (if ((rd_T33 t281 0).f2) = 0 then ((jointerlaw02_awake.f).bind fun t291 => (some t291)) else (some false)) else (some false)) else (some false)) else (none)) else (some false)) else (some false)))) = some r := H
  have A3 := Aside0.mk A30
  clear A30
  by_cases c4 : (t280.size : Int) > 4000
  · rw [if_pos c4] at H
    have c4b0 : decide (4000 < (t280.size : Int)) = true := decide_eq_true c4
    have c4b1 : decide (4000 < t280.size) = true := decide_eq_true (by omega)
    clear c4
    by_cases c5 : t283 = 2
    · rw [if_pos c5] at H
      have c5b0 : (t283 == 2) = true := beq_iff_eq.mpr c5
      have c5b1 : (t283 != 2) = false := bne_eq_false_iff_eq.mpr c5
      clear c5
      by_cases c6 : t282 = 0
      · rw [if_pos c6] at H
        have c6b0 : (t282 == 0) = true := beq_iff_eq.mpr c6
        have c6b1 : (t282 != 0) = false := bne_eq_false_iff_eq.mpr c6
        clear c6
        by_cases c7 : (t281.length : Int) = 0
        · rw [if_pos c7] at H
          have c7b0 : ((t281.length : Int) == 0) = true := beq_iff_eq.mpr c7
          have c7b1 : ((t281.length : Int) != 0) = false := bne_eq_false_iff_eq.mpr c7
          clear c7
          replace H := Option.bind_eq_some_iff.mp H
          obtain ⟨t286, A80, H⟩ := H
          replace H : (some t286) = some r := H
          have A8 := Aside0.mk A80
          clear A80
          obtain rfl := Option.some.inj H
          go_enter Tryd.func6, Tryd.ntmps6
          go_wp2_with (first | ((with_reducible refine gate_callee (f := 14) rfl ?_); refine goesL_ (some 8) rfl rfl Tryd.func14 (by kernel_rfl) rfl #[.string a0] rfl (by (try simp only [List.map_toArray, List.map_cons, List.map_nil]); first | done | rfl | (simp only [List.length_drop, List.length_take]; rfl)) ?_; (with_reducible refine (jointerlaw02_quoted.calls k a0 t280 _ A2.out).mono ?_); rintro e w' ⟨rfl, ⟨nd, rfl⟩⟩; refine ⟨_, rfl, ?_⟩) | ((with_reducible refine gate_callee (f := 10) rfl ?_); refine goesL_ (some 11) rfl rfl Tryd.func10 (by kernel_rfl) rfl #[.string t280] rfl (by (try simp only [List.map_toArray, List.map_cons, List.map_nil]); first | done | rfl | (simp only [List.length_drop, List.length_take]; rfl)) ?_; (with_reducible refine (lex_Tokens.calls t280 t281 t282 t283 _ A3.out (LaidL.below HL (by repeat (first | (with_reducible first | exact HB.out | apply below_alloc | apply pw_below_drewN | apply below_drew1) | exact HB.out)))).mono ?_); rintro e w9 ⟨v284, rfl, ho0, hb⟩; refine ⟨_, rfl, ?_⟩; have n0_ := Aside0.mk (Kd.R_lower ho0 (below_size (by repeat (first | (with_reducible first | exact HB.out | apply below_alloc | apply pw_below_drewN | apply below_drew1) | exact HB.out)))); have n1_ := Aside0.mk (below_step (by repeat (first | (with_reducible first | exact HB.out | apply below_alloc | apply pw_below_drewN | apply below_drew1) | exact HB.out)) hb); clear HB; have HO285 := n0_; have HB := n1_; clear n0_ n1_; (try clear hb); (try clear hb2); (try clear hk); (try clear hi); (try clear ho0); obtain ⟨Ao10, co10, eo10⟩ := Kd.R_slice HO285.out; subst eo10) | (go_at_call 12; (with_reducible refine (jointerlaw02_awake.calls  t286 _ A8.out (LaidL.below HL (by repeat (first | (with_reducible first | exact HB.out | apply below_alloc | apply pw_below_drewN | apply below_drew1) | exact HB.out)))).mono ?_); rintro e w11 ⟨rfl, hb⟩; have n0_ := Aside0.mk (Kd.R_below (by (with_reducible repeat (first | apply Kd.R_alloc | apply Kd.R_drewN | apply Kd.R_drew)); exact HO285.out) hb); have n1_ := Aside0.mk (below_step (by repeat (first | (with_reducible first | exact HB.out | apply below_alloc | apply pw_below_drewN | apply below_drew1) | exact HB.out)) hb); clear HO285; clear HB; have HO285 := n0_; have HB := n1_; clear n0_ n1_; (try clear hb); (try clear hb2); (try clear hk); (try clear hi)))
          go_ret
          exact ⟨by first | rfl | (simp [errW_none, errW_some] <;> rfl) | (simp [*, errW_none, errW_some] <;> rfl), by repeat (first | (with_reducible first | exact HB.out | apply below_alloc | apply pw_below_drewN | apply below_drew1) | exact HB.out)⟩
        · rw [if_neg c7] at H
          have c7b0 : ((t281.length : Int) == 0) = false := beq_eq_false_iff_ne.mpr c7
          have c7b1 : ((t281.length : Int) != 0) = true := bne_iff_ne.mpr c7
          have c7b2 : ¬ (t281 = []) := fun h_ => c7 (by rw [h_]; rfl)
          obtain rfl := Option.some.inj H
          exact absurd HR.out (by decide) -- leaf 2
      · rw [if_neg c6] at H
        have c6b0 : (t282 == 0) = false := beq_eq_false_iff_ne.mpr c6
        have c6b1 : (t282 != 0) = true := bne_iff_ne.mpr c6
        obtain rfl := Option.some.inj H
        exact absurd HR.out (by decide) -- leaf 3
    · rw [if_neg c5] at H
      have c5b0 : (t283 == 2) = false := beq_eq_false_iff_ne.mpr c5
      have c5b1 : (t283 != 2) = true := bne_iff_ne.mpr c5
      obtain rfl := Option.some.inj H
      exact absurd HR.out (by decide) -- leaf 4
  · rw [if_neg c4] at H
    have c4b0 : decide (4000 < (t280.size : Int)) = false := decide_eq_false c4
    have c4b1 : decide (4000 < t280.size) = false := decide_eq_false (by omega)
    clear c4
    by_cases c16 : (a0.size : Int) > 100
    · rw [if_pos c16] at H
      have c16b0 : decide (100 < (a0.size : Int)) = true := decide_eq_true c16
      have c16b1 : decide (100 < a0.size) = true := decide_eq_true (by omega)
      clear c16
      by_cases c17 : t283 = 5
      · rw [if_pos c17] at H
        have c17b0 : (t283 == 5) = true := beq_iff_eq.mpr c17
        have c17b1 : (t283 != 5) = false := bne_eq_false_iff_eq.mpr c17
        clear c17
        by_cases c18 : t282 = 0
        · rw [if_pos c18] at H
          have c18b0 : (t282 == 0) = true := beq_iff_eq.mpr c18
          have c18b1 : (t282 != 0) = false := bne_eq_false_iff_eq.mpr c18
          clear c18
          by_cases c19 : (t281.length : Int) = 0
          · rw [if_pos c19] at H
            have c19b0 : ((t281.length : Int) == 0) = true := beq_iff_eq.mpr c19
            have c19b1 : ((t281.length : Int) != 0) = false := bne_eq_false_iff_eq.mpr c19
            clear c19
            replace H := Option.bind_eq_some_iff.mp H
            obtain ⟨t287, A200, H⟩ := H
            replace H : (some t287) = some r := H
            have A20 := Aside0.mk A200
            clear A200
            obtain rfl := Option.some.inj H
            go_enter Tryd.func6, Tryd.ntmps6
            go_wp2_with (first | ((with_reducible refine gate_callee (f := 14) rfl ?_); refine goesL_ (some 8) rfl rfl Tryd.func14 (by kernel_rfl) rfl #[.string a0] rfl (by (try simp only [List.map_toArray, List.map_cons, List.map_nil]); first | done | rfl | (simp only [List.length_drop, List.length_take]; rfl)) ?_; (with_reducible refine (jointerlaw02_quoted.calls k a0 t280 _ A2.out).mono ?_); rintro e w' ⟨rfl, ⟨nd, rfl⟩⟩; refine ⟨_, rfl, ?_⟩) | ((with_reducible refine gate_callee (f := 10) rfl ?_); refine goesL_ (some 11) rfl rfl Tryd.func10 (by kernel_rfl) rfl #[.string t280] rfl (by (try simp only [List.map_toArray, List.map_cons, List.map_nil]); first | done | rfl | (simp only [List.length_drop, List.length_take]; rfl)) ?_; (with_reducible refine (lex_Tokens.calls t280 t281 t282 t283 _ A3.out (LaidL.below HL (by repeat (first | (with_reducible first | exact HB.out | apply below_alloc | apply pw_below_drewN | apply below_drew1) | exact HB.out)))).mono ?_); rintro e w21 ⟨v284, rfl, ho0, hb⟩; refine ⟨_, rfl, ?_⟩; have n0_ := Aside0.mk (Kd.R_lower ho0 (below_size (by repeat (first | (with_reducible first | exact HB.out | apply below_alloc | apply pw_below_drewN | apply below_drew1) | exact HB.out)))); have n1_ := Aside0.mk (below_step (by repeat (first | (with_reducible first | exact HB.out | apply below_alloc | apply pw_below_drewN | apply below_drew1) | exact HB.out)) hb); clear HB; have HO285 := n0_; have HB := n1_; clear n0_ n1_; (try clear hb); (try clear hb2); (try clear hk); (try clear hi); (try clear ho0); obtain ⟨Ao22, co22, eo22⟩ := Kd.R_slice HO285.out; subst eo22) | (go_at_call 12; (with_reducible refine (jointerlaw02_awake.calls  t287 _ A20.out (LaidL.below HL (by repeat (first | (with_reducible first | exact HB.out | apply below_alloc | apply pw_below_drewN | apply below_drew1) | exact HB.out)))).mono ?_); rintro e w23 ⟨rfl, hb⟩; have n0_ := Aside0.mk (Kd.R_below (by (with_reducible repeat (first | apply Kd.R_alloc | apply Kd.R_drewN | apply Kd.R_drew)); exact HO285.out) hb); have n1_ := Aside0.mk (below_step (by repeat (first | (with_reducible first | exact HB.out | apply below_alloc | apply pw_below_drewN | apply below_drew1) | exact HB.out)) hb); clear HO285; clear HB; have HO285 := n0_; have HB := n1_; clear n0_ n1_; (try clear hb); (try clear hb2); (try clear hk); (try clear hi)))
            go_ret
            exact ⟨by first | rfl | (simp [errW_none, errW_some] <;> rfl) | (simp [*, errW_none, errW_some] <;> rfl), by repeat (first | (with_reducible first | exact HB.out | apply below_alloc | apply pw_below_drewN | apply below_drew1) | exact HB.out)⟩
          · rw [if_neg c19] at H
            have c19b0 : ((t281.length : Int) == 0) = false := beq_eq_false_iff_ne.mpr c19
            have c19b1 : ((t281.length : Int) != 0) = true := bne_iff_ne.mpr c19
            have c19b2 : ¬ (t281 = []) := fun h_ => c19 (by rw [h_]; rfl)
            obtain rfl := Option.some.inj H
            exact absurd HR.out (by decide) -- leaf 6
        · rw [if_neg c18] at H
          have c18b0 : (t282 == 0) = false := beq_eq_false_iff_ne.mpr c18
          have c18b1 : (t282 != 0) = true := bne_iff_ne.mpr c18
          obtain rfl := Option.some.inj H
          exact absurd HR.out (by decide) -- leaf 7
      · rw [if_neg c17] at H
        have c17b0 : (t283 == 5) = false := beq_eq_false_iff_ne.mpr c17
        have c17b1 : (t283 != 5) = true := bne_iff_ne.mpr c17
        obtain rfl := Option.some.inj H
        exact absurd HR.out (by decide) -- leaf 8
    · rw [if_neg c16] at H
      have c16b0 : decide (100 < (a0.size : Int)) = false := decide_eq_false c16
      have c16b1 : decide (100 < a0.size) = false := decide_eq_false (by omega)
      clear c16
      by_cases c28 : t283 = 0
      · rw [if_pos c28] at H
        have c28b0 : (t283 == 0) = true := beq_iff_eq.mpr c28
        have c28b1 : (t283 != 0) = false := bne_eq_false_iff_eq.mpr c28
        clear c28
        by_cases c29 : (t281.length : Int) = 1
        · rw [if_pos c29] at H
          have c29b0 : ((t281.length : Int) == 1) = true := beq_iff_eq.mpr c29
          have c29b1 : ((t281.length : Int) != 1) = false := bne_eq_false_iff_eq.mpr c29
          clear c29
          by_cases c30 : 0 < (t281.length : Int)
          · rw [if_pos c30] at H
            have c30b0 : decide (0 < (t281.length : Int)) = true := decide_eq_true c30
            have c30b1 : decide (0 < t281.length) = true := decide_eq_true (by omega)
            clear c30
            by_cases c31 : ((rd_T33 t281 0).f0) = 4
            · rw [if_pos c31] at H
              have c31b0 : (((rd_T33 t281 0).f0) == 4) = true := beq_iff_eq.mpr c31
              have c31b1 : (((rd_T33 t281 0).f0) != 4) = false := bne_eq_false_iff_eq.mpr c31
              clear c31
              by_cases c32 : ((rd_T33 t281 0).f1).toList = a0.toList
              · rw [if_pos c32] at H
                have c32b0 : (((rd_T33 t281 0).f1).toList == a0.toList) = true := beq_iff_eq.mpr c32
                have c32b1 : (((rd_T33 t281 0).f1).toList != a0.toList) = false := bne_eq_false_iff_eq.mpr c32
                clear c32
                by_cases c33 : ((rd_T33 t281 0).f2) = 0
                · rw [if_pos c33] at H
                  have c33b0 : (((rd_T33 t281 0).f2) == 0) = true := beq_iff_eq.mpr c33
                  have c33b1 : (((rd_T33 t281 0).f2) != 0) = false := bne_eq_false_iff_eq.mpr c33
                  clear c33
                  replace H := Option.bind_eq_some_iff.mp H
                  obtain ⟨t291, A340, H⟩ := H
                  replace H : (some t291) = some r := H
                  have A34 := Aside0.mk A340
                  clear A340
                  obtain rfl := Option.some.inj H
                  go_enter Tryd.func6, Tryd.ntmps6
                  go_wp2_with (first | ((with_reducible refine gate_callee (f := 14) rfl ?_); refine goesL_ (some 8) rfl rfl Tryd.func14 (by kernel_rfl) rfl #[.string a0] rfl (by (try simp only [List.map_toArray, List.map_cons, List.map_nil]); first | done | rfl | (simp only [List.length_drop, List.length_take]; rfl)) ?_; (with_reducible refine (jointerlaw02_quoted.calls k a0 t280 _ A2.out).mono ?_); rintro e w' ⟨rfl, ⟨nd, rfl⟩⟩; refine ⟨_, rfl, ?_⟩) | ((with_reducible refine gate_callee (f := 10) rfl ?_); refine goesL_ (some 11) rfl rfl Tryd.func10 (by kernel_rfl) rfl #[.string t280] rfl (by (try simp only [List.map_toArray, List.map_cons, List.map_nil]); first | done | rfl | (simp only [List.length_drop, List.length_take]; rfl)) ?_; (with_reducible refine (lex_Tokens.calls t280 t281 t282 t283 _ A3.out (LaidL.below HL (by repeat (first | (with_reducible first | exact HB.out | apply below_alloc | apply pw_below_drewN | apply below_drew1) | exact HB.out)))).mono ?_); rintro e w35 ⟨v284, rfl, ho0, hb⟩; refine ⟨_, rfl, ?_⟩; have n0_ := Aside0.mk (Kd.R_lower ho0 (below_size (by repeat (first | (with_reducible first | exact HB.out | apply below_alloc | apply pw_below_drewN | apply below_drew1) | exact HB.out)))); have n1_ := Aside0.mk (below_step (by repeat (first | (with_reducible first | exact HB.out | apply below_alloc | apply pw_below_drewN | apply below_drew1) | exact HB.out)) hb); clear HB; have HO285 := n0_; have HB := n1_; clear n0_ n1_; (try clear hb); (try clear hb2); (try clear hk); (try clear hi); (try clear ho0); obtain ⟨Ao36, co36, eo36⟩ := Kd.R_slice HO285.out; subst eo36; have p288 : 0 ≤ (0 : Int) := (by omega); have q288 : 0 < (t281.length : Int) := of_decide_eq_true (by first | (with_reducible assumption) | assumption); obtain ⟨ad288, e288, hx288_0, hx288_1, hx288_2⟩ := at_T33 (Kd.R_reads' HO285.out).2.2 0 p288 q288; cases e288; have qi288 : (0 < t281.length) = True := eq_true (by omega); (try rw [show ((0 : Int)).toNat = 0 from rfl] at hx288_0); (try rw [show 0 * 3 = 0 from rfl] at hx288_0); (try rw [Addr.add_zero'] at hx288_0); (try rw [show ((0 : Int)).toNat = 0 from rfl] at hx288_1); (try rw [show 0 * 3 = 0 from rfl] at hx288_1); (try rw [Addr.add_zero'] at hx288_1); (try rw [show ((0 : Int)).toNat = 0 from rfl] at hx288_2); (try rw [show 0 * 3 = 0 from rfl] at hx288_2); (try rw [Addr.add_zero'] at hx288_2); replace p288 := eq_true p288; replace q288 := eq_true q288; have p289 : 0 ≤ (0 : Int) := (by omega); have q289 : 0 < (t281.length : Int) := of_decide_eq_true (by first | (with_reducible assumption) | assumption); obtain ⟨ad289, e289, hx289_0, hx289_1, hx289_2⟩ := at_T33 (Kd.R_reads' HO285.out).2.2 0 p289 q289; obtain rfl : ad288 = ad289 := (by injection e289); have qi289 : (0 < t281.length) = True := eq_true (by omega); (try rw [show ((0 : Int)).toNat = 0 from rfl] at hx289_0); (try rw [show 0 * 3 = 0 from rfl] at hx289_0); (try rw [Addr.add_zero'] at hx289_0); (try rw [show ((0 : Int)).toNat = 0 from rfl] at hx289_1); (try rw [show 0 * 3 = 0 from rfl] at hx289_1); (try rw [Addr.add_zero'] at hx289_1); (try rw [show ((0 : Int)).toNat = 0 from rfl] at hx289_2); (try rw [show 0 * 3 = 0 from rfl] at hx289_2); (try rw [Addr.add_zero'] at hx289_2); replace p289 := eq_true p289; replace q289 := eq_true q289; have p290 : 0 ≤ (0 : Int) := (by omega); have q290 : 0 < (t281.length : Int) := of_decide_eq_true (by first | (with_reducible assumption) | assumption); obtain ⟨ad290, e290, hx290_0, hx290_1, hx290_2⟩ := at_T33 (Kd.R_reads' HO285.out).2.2 0 p290 q290; obtain rfl : ad288 = ad290 := (by injection e290); have qi290 : (0 < t281.length) = True := eq_true (by omega); (try rw [show ((0 : Int)).toNat = 0 from rfl] at hx290_0); (try rw [show 0 * 3 = 0 from rfl] at hx290_0); (try rw [Addr.add_zero'] at hx290_0); (try rw [show ((0 : Int)).toNat = 0 from rfl] at hx290_1); (try rw [show 0 * 3 = 0 from rfl] at hx290_1); (try rw [Addr.add_zero'] at hx290_1); (try rw [show ((0 : Int)).toNat = 0 from rfl] at hx290_2); (try rw [show 0 * 3 = 0 from rfl] at hx290_2); (try rw [Addr.add_zero'] at hx290_2); replace p290 := eq_true p290; replace q290 := eq_true q290) | (go_at_call 12; (with_reducible refine (jointerlaw02_awake.calls  t291 _ A34.out (LaidL.below HL (by repeat (first | (with_reducible first | exact HB.out | apply below_alloc | apply pw_below_drewN | apply below_drew1) | exact HB.out)))).mono ?_); rintro e w37 ⟨rfl, hb⟩; have n0_ := Aside0.mk (Kd.R_below (by (with_reducible repeat (first | apply Kd.R_alloc | apply Kd.R_drewN | apply Kd.R_drew)); exact HO285.out) hb); have n1_ := Aside0.mk (below_step (by repeat (first | (with_reducible first | exact HB.out | apply below_alloc | apply pw_below_drewN | apply below_drew1) | exact HB.out)) hb); clear HO285; clear HB; have HO285 := n0_; have HB := n1_; clear n0_ n1_; (try clear hb); (try clear hb2); (try clear hk); (try clear hi)))
                  go_ret
                  exact ⟨by first | rfl | (simp [errW_none, errW_some] <;> rfl) | (simp [*, errW_none, errW_some] <;> rfl), by repeat (first | (with_reducible first | exact HB.out | apply below_alloc | apply pw_below_drewN | apply below_drew1) | exact HB.out)⟩
                · rw [if_neg c33] at H
                  have c33b0 : (((rd_T33 t281 0).f2) == 0) = false := beq_eq_false_iff_ne.mpr c33
                  have c33b1 : (((rd_T33 t281 0).f2) != 0) = true := bne_iff_ne.mpr c33
                  obtain rfl := Option.some.inj H
                  exact absurd HR.out (by decide) -- leaf 10
              · rw [if_neg c32] at H
                have c32b0 : (((rd_T33 t281 0).f1).toList == a0.toList) = false := beq_eq_false_iff_ne.mpr c32
                have c32b1 : (((rd_T33 t281 0).f1).toList != a0.toList) = true := bne_iff_ne.mpr c32
                obtain rfl := Option.some.inj H
                exact absurd HR.out (by decide) -- leaf 11
            · rw [if_neg c31] at H
              have c31b0 : (((rd_T33 t281 0).f0) == 4) = false := beq_eq_false_iff_ne.mpr c31
              have c31b1 : (((rd_T33 t281 0).f0) != 4) = true := bne_iff_ne.mpr c31
              obtain rfl := Option.some.inj H
              exact absurd HR.out (by decide) -- leaf 12
          · rw [if_neg c30] at H
            exact absurd H (by simp)
        · rw [if_neg c29] at H
          have c29b0 : ((t281.length : Int) == 1) = false := beq_eq_false_iff_ne.mpr c29
          have c29b1 : ((t281.length : Int) != 1) = true := bne_iff_ne.mpr c29
          obtain rfl := Option.some.inj H
          exact absurd HR.out (by decide) -- leaf 13
      · rw [if_neg c28] at H
        have c28b0 : (t283 == 0) = false := beq_eq_false_iff_ne.mpr c28
        have c28b1 : (t283 != 0) = true := bne_iff_ne.mpr c28
        obtain rfl := Option.some.inj H
        exact absurd HR.out (by decide) -- leaf 14
/-- THE ONE PURE STATEMENT of jointerlaw02_LexTexts: yours. -/
def jointerlaw02_LexTexts.Pure : Prop := ∀ (a0 : ByteArray), a0.size ≤ 140737488351232 → ∃ k, jointerlaw02_LexTexts.f k a0 = some true
theorem jointerlaw02_LexTexts.walk (P : jointerlaw02_LexTexts.Pure) (a0 : ByteArray) (w : World) (w0 : a0.size ≤ 140737488351232) (hL : LaidL w) :
    Calls Tryd.prog 6 #[.string a0] w fun e w' => e = .returned (.bool true) ∧ Below w.heap.size w w' := by
  obtain ⟨k, h⟩ := P a0 w0
  refine (jointerlaw02_LexTexts.calls k a0 true w rfl h hL).mono ?_
  rintro e w' ⟨rfl, hd⟩
  exact ⟨rfl, hd⟩

end Go.Proofs.YtaibkpbiccibjaaDoor.PAll
