import Derived.Test.YtaibkpbiccibjaaGreatDoorLAwake
import Derived.Test.YtaibkpbiccibjaaGreatDoorJFb
import Derived.Test.YtaibkpbiccibjaaGreatDoorLJoin
namespace Go.Proofs.YtaibkpbiccibjaaGreatDoor.PAll
open Go.RowKit Go.Proofs.YtaibkpbiccibjaaGreatDoorW.PrintWords Go.Proofs.YtaibkpbiccibjaaGreatDoorW.PrintLast Go.Proofs.YtaibkpbiccibjaaGreatDoorW.PrintMore
attribute [local go_sem] max2_int min2_int max_two min_two max_three min_three max_four min_four   -- for this text's walks alone
set_option linter.unusedVariables false
set_option linter.unusedSimpArgs false

/-! ### jointerlaw02_LexJoins: function 3 -/
def jointerlaw02_LexJoins.j0 : Nat → List (S33) → ByteArray → Int → Bool → Option (Bool)
  | 0, _, _, _, _ => none
  | k + 1, x0, x5, x6, x27 => if x27 = true then (some false) else (if x6 = 0 then ((lex_Tokens.f x5).bind fun bt229 => (if bt229.2.2 = 0 then (if bt229.2.1 = 0 then ((jointerref02_SameTokens.f k x0 bt229.1).bind fun t234 => (if t234 = true then ((jointerlaw02_awake.f).bind fun t235 => (some t235)) else (some false))) else (some false)) else (some false))) else ((jointerlaw02_awake.f).bind fun t236 => (some t236)))
def jointerlaw02_LexJoins.f (k : Nat) (l0 : List (S33)) : Option (Bool) := (jointerref02_Join.f k l0).bind fun bt225 => ((lex_Join.f l0).bind fun bt227 => (if bt227.1.toList = bt225.1.toList then (jointerlaw02_LexJoins.j0 k l0 bt227.1 bt227.2 (bt227.2 != bt225.2)) else (jointerlaw02_LexJoins.j0 k l0 bt227.1 bt227.2 true)))
theorem jointerlaw02_LexJoins.mono_l : ∀ k, (∀ y0 y1 y2 y3, LeO (jointerlaw02_LexJoins.j0 k y0 y1 y2 y3) (jointerlaw02_LexJoins.j0 (k + 1) y0 y1 y2 y3))
  | 0 => fun _ _ _ _ r h => by simp [jointerlaw02_LexJoins.j0] at h
  | k + 1 => by
    have ih0 := jointerlaw02_LexJoins.mono_l k
    · intro y0 y1 y2 y3
      unfold jointerlaw02_LexJoins.j0
      repeat' first
      | (with_reducible exact ih0 _ _ _ _)
      | (with_reducible exact jointerref02_Join.mono _ _)
      | (with_reducible exact jointerref02_SameTokens.mono _ _ _)
      | (with_reducible exact LeO.refl _)
      | (with_reducible exact LeO.none _)
      | (with_reducible refine LeO.ite ?_ ?_)
      | (with_reducible refine LeO.bind ?_ (fun _ => ?_))
      | exact ih0 _ _ _ _
      | exact jointerref02_Join.mono _ _
      | exact jointerref02_SameTokens.mono _ _ _
      | exact LeO.none _
      | refine LeO.ite ?_ ?_
      | refine LeO.bind ?_ (fun _ => ?_)
theorem jointerlaw02_LexJoins.mono : ∀ a0 k, LeO (jointerlaw02_LexJoins.f k a0) (jointerlaw02_LexJoins.f (k + 1) a0) := by
  intro a0 k
  have ih0 := jointerlaw02_LexJoins.mono_l k
  unfold jointerlaw02_LexJoins.f
  repeat' first
      | (with_reducible exact ih0 _ _ _ _)
      | (with_reducible exact jointerref02_Join.mono _ _)
      | (with_reducible exact jointerref02_SameTokens.mono _ _ _)
      | (with_reducible exact LeO.refl _)
      | (with_reducible exact LeO.none _)
      | (with_reducible refine LeO.ite ?_ ?_)
      | (with_reducible refine LeO.bind ?_ (fun _ => ?_))
      | exact ih0 _ _ _ _
      | exact jointerref02_Join.mono _ _
      | exact jointerref02_SameTokens.mono _ _ _
      | exact LeO.none _
      | refine LeO.ite ?_ ?_
      | refine LeO.bind ?_ (fun _ => ?_)
set_option maxHeartbeats 8000000 in
set_option maxRecDepth 100000 in
theorem jointerlaw02_LexJoins.calls (k : Nat) (A0 : Option Addr) (c0 : Nat) (l0 : List (S33)) (r : Bool) (w : World) (hr0 : Kd.C k33 w A0 l0.length l0) (hc0 : l0.length ≤ c0) (hr : r = true) (h : jointerlaw02_LexJoins.f k l0 = some r) (hL : LaidL w) (hM : MaxL w) :
    Calls Tryz.prog 3 #[.slice A0 l0.length c0] w fun e w' => e = .returned (.bool r) ∧ Below w.heap.size w w' := by
  have HR := Aside0.mk hr
  clear hr
  have HL := Aside0.mk hL
  clear hL
  have HM := Aside0.mk hM
  clear hM
  have HR0 := Aside0.mk hr0
  have HC0 := Aside0.mk hc0
  clear hr0 hc0
  have HB := Aside0.mk (Below.refl w.heap.size w)
  have H : ((jointerref02_Join.f k l0).bind fun bt225 => ((lex_Join.f l0).bind fun bt227 => (if bt227.1.toList = bt225.1.toList then (jointerlaw02_LexJoins.j0 k l0 bt227.1 bt227.2 (bt227.2 != bt225.2)) else (jointerlaw02_LexJoins.j0 k l0 bt227.1 bt227.2 true)))) = some r := h
  clear h
  replace H := Option.bind_eq_some_iff.mp H
  obtain ⟨⟨t225, t226⟩, A20, H⟩ := H
  replace H : ((lex_Join.f l0).bind fun bt227 => (if bt227.1.toList = t225.toList then (jointerlaw02_LexJoins.j0 k l0 bt227.1 bt227.2 (bt227.2 != t226)) else (jointerlaw02_LexJoins.j0 k l0 bt227.1 bt227.2 true))) = some r := H
  have A2 := Aside0.mk A20
  clear A20
  replace H := Option.bind_eq_some_iff.mp H
  obtain ⟨⟨t227, t228⟩, A30, H⟩ := H
  replace H : (if t227.toList = t225.toList then (jointerlaw02_LexJoins.j0 k l0 t227 t228 (t228 != t226)) else (jointerlaw02_LexJoins.j0 k l0 t227 t228 true)) = some r := H
  have A3 := Aside0.mk A30
  clear A30
  have HC4 := Aside0.mk H
  clear H
  go_enter Tryz.func3, Tryz.ntmps3
  go_upto_region 3 with (first | ((with_reducible refine gate_callee (f := 4) rfl ?_); refine goesL_ (some 12) rfl rfl Tryz.func4 (by kernel_rfl) rfl #[.slice A0 l0.length c0] rfl (by (try simp only [List.map_toArray, List.map_cons, List.map_nil]); first | done | rfl | (simp only [List.length_drop, List.length_take]; rfl)) ?_; (with_reducible refine (jointerref02_Join.calls k _ _ l0 t225 t226 _ ?side1 ?side2 A2.out).mono ?_); (case side1 => repeat (first | exact HR0.out | (with_reducible refine Kd.C_alloc ?_ _) | (with_reducible refine Kd.C_drewN ?_ _) | (with_reducible refine Kd.C_drew ?_))); (case side2 => exact HC0.out); rintro e w5 ⟨rfl, hb⟩; refine ⟨_, rfl, ?_⟩; have n0_ := Aside0.mk (below_step (by repeat (first | (with_reducible first | exact HB.out | apply below_alloc | apply pw_below_drewN | apply below_drew1) | exact HB.out)) hb); clear HB; have HB := n0_; clear n0_; (try clear hb); (try clear hb2); (try clear hk); (try clear hi)) | ((with_reducible refine gate_callee (f := 5) rfl ?_); refine goesL_ (some 17) rfl rfl Tryz.func5 (by kernel_rfl) rfl #[.slice A0 l0.length c0] rfl (by (try simp only [List.map_toArray, List.map_cons, List.map_nil]); first | done | rfl | (simp only [List.length_drop, List.length_take]; rfl)) ?_; (with_reducible refine (lex_Join.calls _ _ l0 t227 t228 _ ?side1 ?side2 A3.out (LaidL.below HL (by repeat (first | (with_reducible first | exact HB.out | apply below_alloc | apply pw_below_drewN | apply below_drew1) | exact HB.out))) (MaxL.below HM (by repeat (first | (with_reducible first | exact HB.out | apply below_alloc | apply pw_below_drewN | apply below_drew1) | exact HB.out)))).mono ?_); (case side1 => repeat (first | exact (Kd.C_below HR0.out HB.out) | (with_reducible refine Kd.C_alloc ?_ _) | (with_reducible refine Kd.C_drewN ?_ _) | (with_reducible refine Kd.C_drew ?_))); (case side2 => exact HC0.out); rintro e w6 ⟨rfl, hb⟩; refine ⟨_, rfl, ?_⟩; have n0_ := Aside0.mk (below_step (by repeat (first | (with_reducible first | exact HB.out | apply below_alloc | apply pw_below_drewN | apply below_drew1) | exact HB.out)) hb); clear HB; have HB := n0_; clear n0_; (try clear hb); (try clear hb2); (try clear hk); (try clear hi)))
  (try simp only [Act.put, List.setIfInBounds_toArray, List.set_cons_zero, List.set_cons_succ])
  go_cut [27] (fun v27 wc => ∃ (kq : Nat) (x27_3 : Bool), v27 = .bool x27_3 ∧ Aside0 (jointerlaw02_LexJoins.j0 kq l0 t227 t228 x27_3 = some r) ∧ Aside0 (kq ≤ k) ∧ Aside0 (Below w.heap.size w wc))
  case first =>
    have H := HC4.out
    clear HC4
    by_cases c7 : t227.toList = t225.toList
    · rw [if_pos c7] at H
      have c7b0 : (t227.toList == t225.toList) = true := beq_iff_eq.mpr c7
      have c7b1 : (t227.toList != t225.toList) = false := bne_eq_false_iff_eq.mpr c7
      clear c7
      (first | rw [c7b0] | (simp only [i64_w, i32_w]; rw [c7b0]) | skip)
      have H' := Aside0.mk H
      clear H
      go_wp2
      go_meet
      case rel => exact ⟨_, ((t228 != t226)), (by first | rfl | (simp; done) | (simp [*]; done)), H', ⟨by first | omega | exact Nat.le_refl _⟩, ⟨by repeat (first | (with_reducible first | exact HB.out | apply below_alloc | apply pw_below_drewN | apply below_drew1) | exact HB.out)⟩⟩
    · rw [if_neg c7] at H
      have c7b0 : (t227.toList == t225.toList) = false := beq_eq_false_iff_ne.mpr c7
      have c7b1 : (t227.toList != t225.toList) = true := bne_iff_ne.mpr c7
      (first | rw [c7b0] | (simp only [i64_w, i32_w]; rw [c7b0]) | skip)
      have H' := Aside0.mk H
      clear H
      go_wp2
      go_meet
      case rel => exact ⟨_, (true), (by first | rfl | (simp; done) | (simp [*]; done)), H', ⟨by first | omega | exact Nat.le_refl _⟩, ⟨by repeat (first | (with_reducible first | exact HB.out | apply below_alloc | apply pw_below_drewN | apply below_drew1) | exact HB.out)⟩⟩
  case rest =>
    clear HC4
    try clear p2
    try clear c3
    try clear c4
    try clear c5
    try clear c7
    try clear c7b0
    try clear c7b1
    obtain ⟨kq, x27_3, rfl, HA, HJ3, HB⟩ := hcut
    cases kq with
    | zero => exact absurd HA.out (by simp [jointerlaw02_LexJoins.j0])
    | succ kj3 =>
      have H := HA.out
      clear HA
      simp only [jointerlaw02_LexJoins.j0] at H
      by_cases c8 : x27_3 = true
      · subst c8
        have H1 : (some false) = some r := by rw [if_pos rfl] at H; exact H
        clear H
        have H := H1
        clear H1
        obtain rfl := Option.some.inj H
        exact absurd HR.out (by decide) -- leaf 1
      · replace c8 := Bool.eq_false_iff.mpr c8
        subst c8
        have H1 : (if t228 = 0 then ((lex_Tokens.f t227).bind fun bt229 => (if bt229.2.2 = 0 then (if bt229.2.1 = 0 then ((jointerref02_SameTokens.f kj3 l0 bt229.1).bind fun t234 => (if t234 = true then ((jointerlaw02_awake.f).bind fun t235 => (some t235)) else (some false))) else (some false)) else (some false))) else ((jointerlaw02_awake.f).bind fun t236 => (some t236))) = some r := by rw [if_neg (show ¬ (false = true) by decide)] at H; exact H
        clear H
        have H := H1
        clear H1
        by_cases c9 : t228 = 0
        · rw [if_pos c9] at H
          have c9b0 : (t228 == 0) = true := beq_iff_eq.mpr c9
          have c9b1 : (t228 != 0) = false := bne_eq_false_iff_eq.mpr c9
          clear c9
          replace H := Option.bind_eq_some_iff.mp H
          obtain ⟨⟨t229, t230, t231⟩, A100, H⟩ := H
          replace H : (if t231 = 0 then (if t230 = 0 then ((jointerref02_SameTokens.f kj3 l0 t229).bind fun t234 => (if t234 = true then ((jointerlaw02_awake.f).bind fun t235 => (some t235)) else (some false))) else (some false)) else (some false)) = some r := H
          have A10 := Aside0.mk A100
          clear A100
          by_cases c11 : t231 = 0
          · rw [if_pos c11] at H
            have c11b0 : (t231 == 0) = true := beq_iff_eq.mpr c11
            have c11b1 : (t231 != 0) = false := bne_eq_false_iff_eq.mpr c11
            clear c11
            by_cases c12 : t230 = 0
            · rw [if_pos c12] at H
              have c12b0 : (t230 == 0) = true := beq_iff_eq.mpr c12
              have c12b1 : (t230 != 0) = false := bne_eq_false_iff_eq.mpr c12
              clear c12
              replace H := Option.bind_eq_some_iff.mp H
              obtain ⟨t234, A130, H⟩ := H
              replace H : (if t234 = true then ((jointerlaw02_awake.f).bind fun t235 => (some t235)) else (some false)) = some r := H
              have A13 := Aside0.mk A130
              clear A130
              by_cases c14 : t234 = true
              · subst c14
                have H1 : ((jointerlaw02_awake.f).bind fun t235 => (some t235)) = some r := by rw [if_pos rfl] at H; exact H
                clear H
                have H := H1
                clear H1
                replace H := Option.bind_eq_some_iff.mp H
                obtain ⟨t235, A150, H⟩ := H
                replace H : (some t235) = some r := H
                have A15 := Aside0.mk A150
                clear A150
                obtain rfl := Option.some.inj H
                go_wp2_with (first | ((with_reducible refine gate_callee (f := 7) rfl ?_); refine goesL_ (some 33) rfl rfl Tryz.func7 (by kernel_rfl) rfl #[.string t227] rfl (by (try simp only [List.map_toArray, List.map_cons, List.map_nil]); first | done | rfl | (simp only [List.length_drop, List.length_take]; rfl)) ?_; (with_reducible refine (lex_Tokens.calls t227 t229 t230 t231 _ A10.out (LaidL.below HL (by repeat (first | (with_reducible first | exact HB.out | apply below_alloc | apply pw_below_drewN | apply below_drew1) | exact HB.out)))).mono ?_); rintro e w16 ⟨v232, rfl, ho0, hb⟩; refine ⟨_, rfl, ?_⟩; have n0_ := Aside0.mk (Kd.R_lower ho0 (below_size (by repeat (first | (with_reducible first | exact HB.out | apply below_alloc | apply pw_below_drewN | apply below_drew1) | exact HB.out)))); have n1_ := Aside0.mk (below_step (by repeat (first | (with_reducible first | exact HB.out | apply below_alloc | apply pw_below_drewN | apply below_drew1) | exact HB.out)) hb); clear HB; have HO233 := n0_; have HB := n1_; clear n0_ n1_; (try clear hb); (try clear hb2); (try clear hk); (try clear hi); (try clear ho0); obtain ⟨Ao17, co17, eo17⟩ := Kd.R_slice HO233.out; subst eo17) | (go_at_call 8; (with_reducible refine (jointerref02_SameTokens.calls kj3 _ _ l0 _ _ t229 true _ ?side1 ?side2 ?side3 ?side4 A13.out).mono ?_); (case side1 => repeat (first | exact (Kd.C_below HR0.out HB.out) | (with_reducible refine Kd.C_alloc ?_ _) | (with_reducible refine Kd.C_drewN ?_ _) | (with_reducible refine Kd.C_drew ?_))); (case side2 => exact HC0.out); (case side3 => repeat (first | exact (Kd.R_reads' HO233.out).2.2 | (with_reducible refine Kd.C_alloc ?_ _) | (with_reducible refine Kd.C_drewN ?_ _) | (with_reducible refine Kd.C_drew ?_))); (case side4 => exact (Kd.R_reads' HO233.out).2.1); rintro e w' ⟨rfl, ⟨nd, rfl⟩⟩) | (go_at_call 6; (with_reducible refine (jointerlaw02_awake.calls  t235 _ A15.out (LaidL.below HL (by repeat (first | (with_reducible first | exact HB.out | apply below_alloc | apply pw_below_drewN | apply below_drew1) | exact HB.out)))).mono ?_); rintro e w18 ⟨rfl, hb⟩; have n0_ := Aside0.mk (Kd.R_below (by (with_reducible repeat (first | apply Kd.R_alloc | apply Kd.R_drewN | apply Kd.R_drew)); exact HO233.out) hb); have n1_ := Aside0.mk (below_step (by repeat (first | (with_reducible first | exact HB.out | apply below_alloc | apply pw_below_drewN | apply below_drew1) | exact HB.out)) hb); clear HO233; clear HB; have HO233 := n0_; have HB := n1_; clear n0_ n1_; (try clear hb); (try clear hb2); (try clear hk); (try clear hi)))
                go_ret
                exact ⟨by first | rfl | (simp [errW_none, errW_some] <;> rfl) | (simp [*, errW_none, errW_some] <;> rfl), by repeat (first | (with_reducible first | exact HB.out | apply below_alloc | apply pw_below_drewN | apply below_drew1) | exact HB.out)⟩
              · replace c14 := Bool.eq_false_iff.mpr c14
                subst c14
                have H1 : (some false) = some r := by rw [if_neg (show ¬ (false = true) by decide)] at H; exact H
                clear H
                have H := H1
                clear H1
                obtain rfl := Option.some.inj H
                exact absurd HR.out (by decide) -- leaf 3
            · rw [if_neg c12] at H
              have c12b0 : (t230 == 0) = false := beq_eq_false_iff_ne.mpr c12
              have c12b1 : (t230 != 0) = true := bne_iff_ne.mpr c12
              obtain rfl := Option.some.inj H
              exact absurd HR.out (by decide) -- leaf 4
          · rw [if_neg c11] at H
            have c11b0 : (t231 == 0) = false := beq_eq_false_iff_ne.mpr c11
            have c11b1 : (t231 != 0) = true := bne_iff_ne.mpr c11
            obtain rfl := Option.some.inj H
            exact absurd HR.out (by decide) -- leaf 5
        · rw [if_neg c9] at H
          have c9b0 : (t228 == 0) = false := beq_eq_false_iff_ne.mpr c9
          have c9b1 : (t228 != 0) = true := bne_iff_ne.mpr c9
          replace H := Option.bind_eq_some_iff.mp H
          obtain ⟨t236, A230, H⟩ := H
          replace H : (some t236) = some r := H
          have A23 := Aside0.mk A230
          clear A230
          obtain rfl := Option.some.inj H
          go_wp2_with (first | ((with_reducible refine gate_callee (f := 6) rfl ?_); refine goesL_ (some 30) rfl rfl Tryz.func6 (by kernel_rfl) rfl #[] rfl (by (try simp only [List.map_toArray, List.map_cons, List.map_nil]); first | done | rfl | (simp only [List.length_drop, List.length_take]; rfl)) ?_; (with_reducible refine (jointerlaw02_awake.calls  t236 _ A23.out (LaidL.below HL (by repeat (first | (with_reducible first | exact HB.out | apply below_alloc | apply pw_below_drewN | apply below_drew1) | exact HB.out)))).mono ?_); rintro e w24 ⟨rfl, hb⟩; refine ⟨_, rfl, ?_⟩; have n0_ := Aside0.mk (below_step (by repeat (first | (with_reducible first | exact HB.out | apply below_alloc | apply pw_below_drewN | apply below_drew1) | exact HB.out)) hb); clear HB; have HB := n0_; clear n0_; (try clear hb); (try clear hb2); (try clear hk); (try clear hi)))
          go_ret
          exact ⟨by first | rfl | (simp [errW_none, errW_some] <;> rfl) | (simp [*, errW_none, errW_some] <;> rfl), by repeat (first | (with_reducible first | exact HB.out | apply below_alloc | apply pw_below_drewN | apply below_drew1) | exact HB.out)⟩

end Go.Proofs.YtaibkpbiccibjaaGreatDoor.PAll
