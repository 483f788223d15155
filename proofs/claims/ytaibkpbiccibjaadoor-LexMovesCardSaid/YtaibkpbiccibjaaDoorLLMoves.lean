import Derived.Test.YtaibkpbiccibjaaDoorLAwake
import Derived.Test.YtaibkpbiccibjaaDoorLFe
namespace Go.Proofs.YtaibkpbiccibjaaDoor.PAll
open Go.RowKit Go.Proofs.YtaibkpbiccibjaaDoorW.PrintWords Go.Proofs.YtaibkpbiccibjaaDoorW.PrintLast Go.Proofs.YtaibkpbiccibjaaDoorW.PrintMore
attribute [local go_sem] max2_int min2_int max_two min_two max_three min_three max_four min_four   -- for this text's walks alone
set_option linter.unusedVariables false
set_option linter.unusedSimpArgs false

/-! ### jointerlaw02_LexMoves: function 4 -/
mutual
def jointerlaw02_LexMoves.l0 : Nat → ByteArray → ByteArray → ByteArray → Int → Option (Bool)
  | 0, _, _, _, _ => none
  | k + 1, x0, x1, x9, x10 => if x10 < (x1.size : Int) then (if 0 ≤ x10 then (if (bt x1 x10) = 10 then (jointerlaw02_LexMoves.l0 k x0 (⟨#[]⟩ : ByteArray) x9 (wrap64 (x10 + 1))) else (jointerlaw02_LexMoves.l0 k x0 x1 x9 (wrap64 (x10 + 1)))) else (none)) else (if x1.toList = ([] : List UInt8) then (jointerlaw02_LexMoves.j1 k x0 x9) else (if 2 + x1.size ≤ 9223372036854775807 then (if ((⟨#[45, 45]⟩ : ByteArray) ++ x1).size + 1 ≤ 9223372036854775807 then (if x9.size + (((⟨#[45, 45]⟩ : ByteArray) ++ x1) ++ (⟨#[10]⟩ : ByteArray)).size ≤ 9223372036854775807 then (jointerlaw02_LexMoves.j1 k x0 (x9 ++ (((⟨#[45, 45]⟩ : ByteArray) ++ x1) ++ (⟨#[10]⟩ : ByteArray)))) else (none)) else (none)) else (none)))
def jointerlaw02_LexMoves.j1 : Nat → ByteArray → ByteArray → Option (Bool)
  | 0, _, _ => none
  | k + 1, x0, x9 => if (wrap64 ((x9.size : Int) + (x0.size : Int))) > 4000 then ((jointerlaw02_awake.f).bind fun t248 => (some t248)) else ((lex_Tokens.f x0).bind fun bt249 => (if x9.size + x0.size ≤ 9223372036854775807 then ((lex_Tokens.f (x9 ++ x0)).bind fun bt254 => (if bt249.2.2 = bt254.2.2 then (if bt249.2.2 = 0 then ((jointerlaw02_same.f k bt249.1 bt254.1 (x9.size : Int)).bind fun t259 => (if t259 = true then ((jointerlaw02_awake.f).bind fun t260 => (some t260)) else (some false))) else (if (bt249.1.length : Int) = 0 then (if (bt254.1.length : Int) = 0 then (if bt254.2.1 = (wrap64 (bt249.2.1 + (x9.size : Int))) then ((jointerlaw02_awake.f).bind fun t261 => (some t261)) else (some false)) else (some false)) else (some false))) else (some false))) else (none)))
end
def jointerlaw02_LexMoves.f (k : Nat) (a0 : ByteArray) (a1 : ByteArray) (a2 : Int) (a3 : Int) : Option (Bool) := (jointerlaw02_blanks.f k (wrap64 (a2)) a3).bind fun t247 => (jointerlaw02_LexMoves.l0 k a0 a1 t247 0)
theorem jointerlaw02_LexMoves.mono_l : ∀ k, (∀ y0 y1 y2 y3, LeO (jointerlaw02_LexMoves.l0 k y0 y1 y2 y3) (jointerlaw02_LexMoves.l0 (k + 1) y0 y1 y2 y3)) ∧ (∀ y0 y1, LeO (jointerlaw02_LexMoves.j1 k y0 y1) (jointerlaw02_LexMoves.j1 (k + 1) y0 y1))
  | 0 => ⟨fun _ _ _ _ r h => by simp [jointerlaw02_LexMoves.l0] at h, fun _ _ r h => by simp [jointerlaw02_LexMoves.j1] at h⟩
  | k + 1 => by
    obtain ⟨ih0, ih1⟩ := jointerlaw02_LexMoves.mono_l k
    refine ⟨?_, ?_⟩
    · intro y0 y1 y2 y3
      unfold jointerlaw02_LexMoves.l0
      repeat' first
      | (with_reducible exact ih0 _ _ _ _)
      | (with_reducible exact ih1 _ _)
      | (with_reducible exact jointerlaw02_blanks.mono _ _ _)
      | (with_reducible exact jointerlaw02_same.mono _ _ _ _)
      | (with_reducible exact LeO.refl _)
      | (with_reducible exact LeO.none _)
      | (with_reducible refine LeO.ite ?_ ?_)
      | (with_reducible refine LeO.bind ?_ (fun _ => ?_))
      | exact ih0 _ _ _ _
      | exact ih1 _ _
      | exact jointerlaw02_blanks.mono _ _ _
      | exact jointerlaw02_same.mono _ _ _ _
      | exact LeO.none _
      | refine LeO.ite ?_ ?_
      | refine LeO.bind ?_ (fun _ => ?_)
    · intro y0 y1
      unfold jointerlaw02_LexMoves.j1
      repeat' first
      | (with_reducible exact ih0 _ _ _ _)
      | (with_reducible exact ih1 _ _)
      | (with_reducible exact jointerlaw02_blanks.mono _ _ _)
      | (with_reducible exact jointerlaw02_same.mono _ _ _ _)
      | (with_reducible exact LeO.refl _)
      | (with_reducible exact LeO.none _)
      | (with_reducible refine LeO.ite ?_ ?_)
      | (with_reducible refine LeO.bind ?_ (fun _ => ?_))
      | exact ih0 _ _ _ _
      | exact ih1 _ _
      | exact jointerlaw02_blanks.mono _ _ _
      | exact jointerlaw02_same.mono _ _ _ _
      | exact LeO.none _
      | refine LeO.ite ?_ ?_
      | refine LeO.bind ?_ (fun _ => ?_)
theorem jointerlaw02_LexMoves.mono : ∀ a0 a1 a2 a3 k, LeO (jointerlaw02_LexMoves.f k a0 a1 a2 a3) (jointerlaw02_LexMoves.f (k + 1) a0 a1 a2 a3) := by
  intro a0 a1 a2 a3 k
  obtain ⟨ih0, ih1⟩ := jointerlaw02_LexMoves.mono_l k
  unfold jointerlaw02_LexMoves.f
  repeat' first
      | (with_reducible exact ih0 _ _ _ _)
      | (with_reducible exact ih1 _ _)
      | (with_reducible exact jointerlaw02_blanks.mono _ _ _)
      | (with_reducible exact jointerlaw02_same.mono _ _ _ _)
      | (with_reducible exact LeO.refl _)
      | (with_reducible exact LeO.none _)
      | (with_reducible refine LeO.ite ?_ ?_)
      | (with_reducible refine LeO.bind ?_ (fun _ => ?_))
      | exact ih0 _ _ _ _
      | exact ih1 _ _
      | exact jointerlaw02_blanks.mono _ _ _
      | exact jointerlaw02_same.mono _ _ _ _
      | exact LeO.none _
      | refine LeO.ite ?_ ?_
      | refine LeO.bind ?_ (fun _ => ?_)
set_option maxHeartbeats 8000000 in
set_option maxRecDepth 100000 in
theorem jointerlaw02_LexMoves.calls (k : Nat) (a0 : ByteArray) (a1 : ByteArray) (a2 : Int) (a3 : Int) (r : Bool) (w : World) (hr : r = true) (h : jointerlaw02_LexMoves.f k a0 a1 a2 a3 = some r) (hL : LaidL w) :
    Calls Tryd.prog 4 #[.string a0, .string a1, .int .u8 a2, .int .i64 a3] w fun e w' => e = .returned (.bool r) ∧ Below w.heap.size w w' := by
  have HR := Aside0.mk hr
  clear hr
  have HL := Aside0.mk hL
  clear hL
  have HB := Aside0.mk (Below.refl w.heap.size w)
  have H : ((jointerlaw02_blanks.f k (wrap64 (a2)) a3).bind fun t247 => (jointerlaw02_LexMoves.l0 k a0 a1 t247 0)) = some r := h
  clear h
  replace H := Option.bind_eq_some_iff.mp H
  obtain ⟨t247, A50, H⟩ := H
  replace H : (jointerlaw02_LexMoves.l0 k a0 a1 t247 0) = some r := H
  have A5 := Aside0.mk A50
  clear A50
  have H' := Aside0.mk H
  clear H
  go_enter Tryd.func4, Tryd.ntmps4
  go_wp2_with (first | ((with_reducible refine gate_callee (f := 13) rfl ?_); refine goesL_ (some 20) rfl rfl Tryd.func13 (by kernel_rfl) rfl #[.int .i64 (wrap64 (a2)), .int .i64 a3] rfl (by (try simp only [List.map_toArray, List.map_cons, List.map_nil]); first | done | rfl | (simp only [List.length_drop, List.length_take]; rfl)) ?_; (with_reducible refine (jointerlaw02_blanks.calls k (wrap64 (a2)) a3 t247 _ A5.out).mono ?_); rintro e w' ⟨rfl, ⟨nd, rfl⟩⟩; refine ⟨_, rfl, ?_⟩))
  go_loopg [1, 10] k (fun kq v1 v10 w' => ∃ (x1_1 : ByteArray) (x10_1 : Int), v1 = .string x1_1 ∧ v10 = .int .i64 x10_1 ∧ Aside0 (jointerlaw02_LexMoves.l0 kq a0 x1_1 t247 x10_1 = some r) ∧ Aside0 (kq ≤ k) ∧ Aside0 (Below w.heap.size w w'))
  case atStart => exact ⟨(a1), (0), (by first | rfl | (simp; done) | (simp [*]; done)), (by first | rfl | (simp; done) | (simp [*]; done)), H', ⟨Nat.le_refl _⟩, ⟨by repeat (first | (with_reducible first | exact HB.out | apply below_alloc | apply pw_below_drewN | apply below_drew1) | exact HB.out)⟩⟩
  case round =>
    clear H'
    try clear c1
    try clear p2
    try clear c4
    obtain ⟨x1_1, x10_1, rfl, rfl, HA, HK1, HB⟩ := hrel
    cases gk with
    | zero => exact absurd HA.out (by simp [jointerlaw02_LexMoves.l0])
    | succ k1 =>
      have H := HA.out
      clear HA
      simp only [jointerlaw02_LexMoves.l0] at H
      by_cases c6 : x10_1 < (x1_1.size : Int)
      · rw [if_pos c6] at H
        have c6b0 : decide (x10_1 < (x1_1.size : Int)) = true := decide_eq_true c6
        clear c6
        by_cases c7 : 0 ≤ x10_1
        · rw [if_pos c7] at H
          have c7b0 : decide (0 ≤ x10_1) = true := decide_eq_true c7
          clear c7
          by_cases c9 : (bt x1_1 x10_1) = 10
          · rw [if_pos c9] at H
            have c9b0 : ((bt x1_1 x10_1) == 10) = true := beq_iff_eq.mpr c9
            have c9b1 : ((bt x1_1 x10_1) != 10) = false := bne_eq_false_iff_eq.mpr c9
            clear c9
            have H' := Aside0.mk H
            clear H
            have p8 : 0 ≤ (x10_1 : Int) := of_decide_eq_true (by first | (with_reducible assumption) | assumption)
            have q8 : x10_1 < (x1_1.size : Int) := of_decide_eq_true (by first | (with_reducible assumption) | assumption)
            have hx8 := bt_at x1_1 x10_1
            replace p8 := eq_true p8
            replace q8 := eq_true q8
            go_wp2
            go_roundg k1
            case measure => have := HK1.out; omega
            case rel => exact ⟨((⟨#[]⟩ : ByteArray)), (wrap64 (x10_1 + 1)), (by first | rfl | (simp; done) | (simp [*]; done)), (by first | rfl | (simp; done) | (simp [*]; done)), H', ⟨by have := HK1.out; omega⟩, ⟨by repeat (first | (with_reducible first | exact HB.out | apply below_alloc | apply pw_below_drewN | apply below_drew1) | exact HB.out)⟩⟩
          · rw [if_neg c9] at H
            have c9b0 : ((bt x1_1 x10_1) == 10) = false := beq_eq_false_iff_ne.mpr c9
            have c9b1 : ((bt x1_1 x10_1) != 10) = true := bne_iff_ne.mpr c9
            have H' := Aside0.mk H
            clear H
            have p8 : 0 ≤ (x10_1 : Int) := of_decide_eq_true (by first | (with_reducible assumption) | assumption)
            have q8 : x10_1 < (x1_1.size : Int) := of_decide_eq_true (by first | (with_reducible assumption) | assumption)
            have hx8 := bt_at x1_1 x10_1
            replace p8 := eq_true p8
            replace q8 := eq_true q8
            go_wp2
            go_roundg k1
            case measure => have := HK1.out; omega
            case rel => exact ⟨(x1_1), (wrap64 (x10_1 + 1)), (by first | rfl | (simp; done) | (simp [*]; done)), (by first | rfl | (simp; done) | (simp [*]; done)), H', ⟨by have := HK1.out; omega⟩, ⟨by repeat (first | (with_reducible first | exact HB.out | apply below_alloc | apply pw_below_drewN | apply below_drew1) | exact HB.out)⟩⟩
        · rw [if_neg c7] at H
          exact absurd H (by simp)
      · rw [if_neg c6] at H
        have c6b0 : decide (x10_1 < (x1_1.size : Int)) = false := decide_eq_false c6
        clear c6
        have HC10 := Aside0.mk H
        clear H
        go_upto_if 32 with (fail)
        go_cut [9] (fun v9 wc => ∃ (kq : Nat) (x9_9 : ByteArray), v9 = .string x9_9 ∧ Aside0 (jointerlaw02_LexMoves.j1 kq a0 x9_9 = some r) ∧ Aside0 (kq ≤ k1) ∧ Aside0 (Below w.heap.size w wc))
        case first =>
          have H := HC10.out
          clear HC10
          by_cases c11 : x1_1.toList = ([] : List UInt8)
          · rw [if_pos c11] at H
            have c11b0 : (x1_1.toList == ([] : List UInt8)) = true := beq_iff_eq.mpr c11
            have c11b1 : (x1_1.toList != ([] : List UInt8)) = false := bne_eq_false_iff_eq.mpr c11
            have c11e : x1_1.toList.isEmpty = true := by rw [c11]; rfl
            have c11f : (!x1_1.toList.isEmpty) = false := by rw [c11e]; rfl
            clear c11
            rw [c11f]
            have H' := Aside0.mk H
            clear H
            go_wp2
            go_meet
            case rel => exact ⟨_, (t247), (by first | rfl | (simp; done) | (simp [*]; done)), H', ⟨by have := HK1.out; first | omega | exact Nat.le_refl _⟩, ⟨by repeat (first | (with_reducible first | exact HB.out | apply below_alloc | apply pw_below_drewN | apply below_drew1) | exact HB.out)⟩⟩
          · rw [if_neg c11] at H
            have c11b0 : (x1_1.toList == ([] : List UInt8)) = false := beq_eq_false_iff_ne.mpr c11
            have c11b1 : (x1_1.toList != ([] : List UInt8)) = true := bne_iff_ne.mpr c11
            have c11e : x1_1.toList.isEmpty = false := by cases hh : x1_1.toList with | nil => exact absurd hh c11 | cons _ _ => rfl
            have c11f : (!x1_1.toList.isEmpty) = true := by rw [c11e]; rfl
            rw [c11f]
            by_cases c12 : 2 + x1_1.size ≤ 9223372036854775807
            · rw [if_pos c12] at H
              have c12b0 := eq_true c12
              have c12b1 : decide (2 + x1_1.size ≤ 9223372036854775807) = true := decide_eq_true c12
              try have c12b2 : (9223372036854775807 < 2 + x1_1.size) = False := eq_false (Nat.not_lt.2 c12)
              by_cases c13 : ((⟨#[45, 45]⟩ : ByteArray) ++ x1_1).size + 1 ≤ 9223372036854775807
              · rw [if_pos c13] at H
                have c13b0 := eq_true c13
                have c13x : 2 + x1_1.size + 1 ≤ 9223372036854775807 := by have h0 := c13; rw [ByteArray.size_append] at h0; exact h0
                have c13b7 := eq_true c13x
                have c13b8 : decide (2 + x1_1.size + 1 ≤ 9223372036854775807) = true := decide_eq_true c13x
                have c13b9 : (9223372036854775807 < 2 + x1_1.size + 1) = False := eq_false (Nat.not_lt.2 c13x)
                have c13b1 : decide (((⟨#[45, 45]⟩ : ByteArray) ++ x1_1).size + 1 ≤ 9223372036854775807) = true := decide_eq_true c13
                try have c13b2 : (9223372036854775807 < ((⟨#[45, 45]⟩ : ByteArray) ++ x1_1).size + 1) = False := eq_false (Nat.not_lt.2 c13)
                by_cases c14 : t247.size + (((⟨#[45, 45]⟩ : ByteArray) ++ x1_1) ++ (⟨#[10]⟩ : ByteArray)).size ≤ 9223372036854775807
                · rw [if_pos c14] at H
                  have c14b0 := eq_true c14
                  have c14x : t247.size + (2 + x1_1.size + 1) ≤ 9223372036854775807 := by have h0 := c14; rw [ByteArray.size_append, ByteArray.size_append] at h0; exact h0
                  have c14b7 := eq_true c14x
                  have c14b8 : decide (t247.size + (2 + x1_1.size + 1) ≤ 9223372036854775807) = true := decide_eq_true c14x
                  have c14b9 : (9223372036854775807 < t247.size + (2 + x1_1.size + 1)) = False := eq_false (Nat.not_lt.2 c14x)
                  have c14b1 : decide (t247.size + (((⟨#[45, 45]⟩ : ByteArray) ++ x1_1) ++ (⟨#[10]⟩ : ByteArray)).size ≤ 9223372036854775807) = true := decide_eq_true c14
                  try have c14b2 : (9223372036854775807 < t247.size + (((⟨#[45, 45]⟩ : ByteArray) ++ x1_1) ++ (⟨#[10]⟩ : ByteArray)).size) = False := eq_false (Nat.not_lt.2 c14)
                  have H' := Aside0.mk H
                  clear H
                  go_wp2
                  go_meet
                  case rel => exact ⟨_, (t247 ++ (((⟨#[45, 45]⟩ : ByteArray) ++ x1_1) ++ (⟨#[10]⟩ : ByteArray))), (by first | rfl | (simp; done) | (simp [*]; done)), H', ⟨by have := HK1.out; first | omega | exact Nat.le_refl _⟩, ⟨by repeat (first | (with_reducible first | exact HB.out | apply below_alloc | apply pw_below_drewN | apply below_drew1) | exact HB.out)⟩⟩
                · rw [if_neg c14] at H
                  exact absurd H (by simp)
              · rw [if_neg c13] at H
                exact absurd H (by simp)
            · rw [if_neg c12] at H
              exact absurd H (by simp)
        case rest =>
          clear HC10
          try clear c1
          try clear p2
          try clear c4
          try clear c6
          try clear c6b0
          try clear p6
          try clear c7
          try clear c7b0
          try clear p8
          try clear q8
          try clear hx8
          try clear c9
          try clear c9b0
          try clear c9b1
          try clear c11
          try clear c11b0
          try clear c11b1
          try clear c12
          try clear c12b0
          try clear c12b1
          try clear c12b2
          try clear c13
          try clear c13b0
          try clear c13b1
          try clear c13b2
          try clear c14
          try clear c14b0
          try clear c14b1
          try clear c14b2
          try clear p2
          try clear p8
          try clear q8
          obtain ⟨kq, x9_9, rfl, HA, HJ9, HB⟩ := hcut
          cases kq with
          | zero => exact absurd HA.out (by simp [jointerlaw02_LexMoves.j1])
          | succ kj9 =>
            have H := HA.out
            clear HA
            simp only [jointerlaw02_LexMoves.j1] at H
            by_cases c15 : (wrap64 ((x9_9.size : Int) + (a0.size : Int))) > 4000
            · rw [if_pos c15] at H
              have c15b0 : decide (4000 < (wrap64 ((x9_9.size : Int) + (a0.size : Int)))) = true := decide_eq_true c15
              clear c15
              replace H := Option.bind_eq_some_iff.mp H
              obtain ⟨t248, A160, H⟩ := H
              replace H : (some t248) = some r := H
              have A16 := Aside0.mk A160
              clear A160
              obtain rfl := Option.some.inj H
              go_wp2_with (first | ((with_reducible refine gate_callee (f := 12) rfl ?_); refine goesL_ (some 44) rfl rfl Tryd.func12 (by kernel_rfl) rfl #[] rfl (by (try simp only [List.map_toArray, List.map_cons, List.map_nil]); first | done | rfl | (simp only [List.length_drop, List.length_take]; rfl)) ?_; (with_reducible refine (jointerlaw02_awake.calls  t248 _ A16.out (LaidL.below HL (by repeat (first | (with_reducible first | exact HB.out | apply below_alloc | apply pw_below_drewN | apply below_drew1) | exact HB.out)))).mono ?_); rintro e w17 ⟨rfl, hb⟩; refine ⟨_, rfl, ?_⟩; have n0_ := Aside0.mk (below_step (by repeat (first | (with_reducible first | exact HB.out | apply below_alloc | apply pw_below_drewN | apply below_drew1) | exact HB.out)) hb); clear HB; have HB := n0_; clear n0_; (try clear hb); (try clear hb2); (try clear hk); (try clear hi)))
              go_ret
              exact ⟨by first | rfl | (simp [errW_none, errW_some] <;> rfl) | (simp [*, errW_none, errW_some] <;> rfl), by repeat (first | (with_reducible first | exact HB.out | apply below_alloc | apply pw_below_drewN | apply below_drew1) | exact HB.out)⟩
            · rw [if_neg c15] at H
              have c15b0 : decide (4000 < (wrap64 ((x9_9.size : Int) + (a0.size : Int)))) = false := decide_eq_false c15
              clear c15
              replace H := Option.bind_eq_some_iff.mp H
              obtain ⟨⟨t249, t250, t251⟩, A180, H⟩ := H
              replace H : (if x9_9.size + a0.size ≤ 9223372036854775807 then ((lex_Tokens.f (x9_9 ++ a0)).bind fun bt254 => (if t251 = bt254.2.2 then (if t251 = 0 then ((jointerlaw02_same.f kj9 t249 bt254.1 (x9_9.size : Int)).bind fun t259 => (if t259 = true then ((jointerlaw02_awake.f).bind fun t260 => (some t260)) else (some false))) else (if (t249.length : Int) = 0 then (if (bt254.1.length : Int) = 0 then (if bt254.2.1 = (wrap64 (t250 + (x9_9.size : Int))) then ((jointerlaw02_awake.f).bind fun t261 => (some t261)) else (some false)) else (some false)) else (some false))) else (some false))) else (none)) = some r := H
              have A18 := Aside0.mk A180
              clear A180
              by_cases c19 : x9_9.size + a0.size ≤ 9223372036854775807
              · rw [if_pos c19] at H
                have c19b0 := eq_true c19
                have c19b1 : decide (x9_9.size + a0.size ≤ 9223372036854775807) = true := decide_eq_true c19
                try have c19b2 : (9223372036854775807 < x9_9.size + a0.size) = False := eq_false (Nat.not_lt.2 c19)
                have c15z : ¬ (4000 < (x9_9.size : Int) + (a0.size : Int)) := by
                  have hz := of_decide_eq_false c15b0
                  rw [show wrap64 ((x9_9.size : Int) + (a0.size : Int)) = (x9_9.size : Int) + (a0.size : Int) by unfold wrap64; omega] at hz
                  exact hz
                have c15z1 : decide (4000 < (x9_9.size : Int) + (a0.size : Int)) = false := decide_eq_false c15z
                replace H := Option.bind_eq_some_iff.mp H
                obtain ⟨⟨t254, t255, t256⟩, A200, H⟩ := H
                replace H : (if t251 = t256 then (if t251 = 0 then ((jointerlaw02_same.f kj9 t249 t254 (x9_9.size : Int)).bind fun t259 => (if t259 = true then ((jointerlaw02_awake.f).bind fun t260 => (some t260)) else (some false))) else (if (t249.length : Int) = 0 then (if (t254.length : Int) = 0 then (if t255 = (wrap64 (t250 + (x9_9.size : Int))) then ((jointerlaw02_awake.f).bind fun t261 => (some t261)) else (some false)) else (some false)) else (some false))) else (some false)) = some r := H
                have A20 := Aside0.mk A200
                clear A200
                by_cases c21 : t251 = t256
                · rw [if_pos c21] at H
                  have c21b0 : (t251 == t256) = true := beq_iff_eq.mpr c21
                  have c21b1 : (t251 != t256) = false := bne_eq_false_iff_eq.mpr c21
                  clear c21
                  by_cases c22 : t251 = 0
                  · rw [if_pos c22] at H
                    have c22b0 : (t251 == 0) = true := beq_iff_eq.mpr c22
                    have c22b1 : (t251 != 0) = false := bne_eq_false_iff_eq.mpr c22
                    clear c22
                    replace H := Option.bind_eq_some_iff.mp H
                    obtain ⟨t259, A230, H⟩ := H
                    replace H : (if t259 = true then ((jointerlaw02_awake.f).bind fun t260 => (some t260)) else (some false)) = some r := H
                    have A23 := Aside0.mk A230
                    clear A230
                    by_cases c24 : t259 = true
                    · subst c24
                      have H1 : ((jointerlaw02_awake.f).bind fun t260 => (some t260)) = some r := by rw [if_pos rfl] at H; exact H
                      clear H
                      have H := H1
                      clear H1
                      replace H := Option.bind_eq_some_iff.mp H
                      obtain ⟨t260, A250, H⟩ := H
                      replace H : (some t260) = some r := H
                      have A25 := Aside0.mk A250
                      clear A250
                      obtain rfl := Option.some.inj H
                      go_wp2_with (first | ((with_reducible refine gate_callee (f := 10) rfl ?_); refine goesL_ (some 47) rfl rfl Tryd.func10 (by kernel_rfl) rfl #[.string a0] rfl (by (try simp only [List.map_toArray, List.map_cons, List.map_nil]); first | done | rfl | (simp only [List.length_drop, List.length_take]; rfl)) ?_; (with_reducible refine (lex_Tokens.calls a0 t249 t250 t251 _ A18.out (LaidL.below HL (by repeat (first | (with_reducible first | exact HB.out | apply below_alloc | apply pw_below_drewN | apply below_drew1) | exact HB.out)))).mono ?_); rintro e w26 ⟨v252, rfl, ho0, hb⟩; refine ⟨_, rfl, ?_⟩; have n0_ := Aside0.mk (Kd.R_lower ho0 (below_size (by repeat (first | (with_reducible first | exact HB.out | apply below_alloc | apply pw_below_drewN | apply below_drew1) | exact HB.out)))); have n1_ := Aside0.mk (below_step (by repeat (first | (with_reducible first | exact HB.out | apply below_alloc | apply pw_below_drewN | apply below_drew1) | exact HB.out)) hb); clear HB; have HO253 := n0_; have HB := n1_; clear n0_ n1_; (try clear hb); (try clear hb2); (try clear hk); (try clear hi); (try clear ho0)) | ((with_reducible refine gate_callee (f := 10) rfl ?_); refine goesL_ (some 55) rfl rfl Tryd.func10 (by kernel_rfl) rfl #[.string (x9_9 ++ a0)] rfl (by (try simp only [List.map_toArray, List.map_cons, List.map_nil]); first | done | rfl | (simp only [List.length_drop, List.length_take]; rfl)) ?_; (with_reducible refine (lex_Tokens.calls (x9_9 ++ a0) t254 t255 t256 _ A20.out (LaidL.below HL (by repeat (first | (with_reducible first | exact HB.out | apply below_alloc | apply pw_below_drewN | apply below_drew1) | exact HB.out)))).mono ?_); rintro e w27 ⟨v257, rfl, ho0, hb⟩; refine ⟨_, rfl, ?_⟩; have n0_ := Aside0.mk (Kd.R_elder' (by (with_reducible repeat (first | apply Kd.R_alloc | apply Kd.R_drewN | apply Kd.R_drew)); exact HO253.out) (Kd.R_base ho0) hb); have n1_ := Aside0.mk (Kd.R_lower (Kd.R_new' ho0 (Kd.R_lt (by (with_reducible repeat (first | apply Kd.R_alloc | apply Kd.R_drewN | apply Kd.R_drew)); exact HO253.out))) (below_size (by repeat (first | (with_reducible first | exact HB.out | apply below_alloc | apply pw_below_drewN | apply below_drew1) | exact HB.out)))); have n2_ := Aside0.mk (below_step (by repeat (first | (with_reducible first | exact HB.out | apply below_alloc | apply pw_below_drewN | apply below_drew1) | exact HB.out)) hb); clear HO253; clear HB; have HO253 := n0_; have HO258 := n1_; have HB := n2_; clear n0_ n1_ n2_; (try clear hb); (try clear hb2); (try clear hk); (try clear hi); (try clear ho0); obtain ⟨Ao28, co28, eo28⟩ := Kd.R_slice HO253.out; subst eo28; obtain ⟨Ao29, co29, eo29⟩ := Kd.R_slice HO258.out; subst eo29) | ((with_reducible refine gate_callee (f := 11) rfl ?_); refine goesL_ (some 87) rfl rfl Tryd.func11 (by kernel_rfl) rfl #[.slice Ao28 t249.length co28, .slice Ao29 t254.length co29, .int .i64 (x9_9.size : Int)] rfl (by (try simp only [List.map_toArray, List.map_cons, List.map_nil]); first | done | rfl | (simp only [List.length_drop, List.length_take]; rfl)) ?_; (with_reducible refine (jointerlaw02_same.calls kj9 _ _ t249 _ _ t254 (x9_9.size : Int) true _ ?side1 ?side2 ?side3 ?side4 A23.out).mono ?_); (case side1 => repeat (first | exact (Kd.R_reads' HO253.out).2.2 | (with_reducible refine Kd.C_alloc ?_ _) | (with_reducible refine Kd.C_drewN ?_ _) | (with_reducible refine Kd.C_drew ?_))); (case side2 => exact (Kd.R_reads' HO253.out).2.1); (case side3 => repeat (first | exact (Kd.R_reads' HO258.out).2.2 | (with_reducible refine Kd.C_alloc ?_ _) | (with_reducible refine Kd.C_drewN ?_ _) | (with_reducible refine Kd.C_drew ?_))); (case side4 => exact (Kd.R_reads' HO258.out).2.1); rintro e w' ⟨rfl, ⟨nd, rfl⟩⟩; refine ⟨_, rfl, ?_⟩) | (go_at_call 12; (with_reducible refine (jointerlaw02_awake.calls  t260 _ A25.out (LaidL.below HL (by repeat (first | (with_reducible first | exact HB.out | apply below_alloc | apply pw_below_drewN | apply below_drew1) | exact HB.out)))).mono ?_); rintro e w30 ⟨rfl, hb⟩; have n0_ := Aside0.mk (Kd.R_below (by (with_reducible repeat (first | apply Kd.R_alloc | apply Kd.R_drewN | apply Kd.R_drew)); exact HO253.out) hb); have n1_ := Aside0.mk (Kd.R_below (by (with_reducible repeat (first | apply Kd.R_alloc | apply Kd.R_drewN | apply Kd.R_drew)); exact HO258.out) hb); have n2_ := Aside0.mk (below_step (by repeat (first | (with_reducible first | exact HB.out | apply below_alloc | apply pw_below_drewN | apply below_drew1) | exact HB.out)) hb); clear HO253; clear HO258; clear HB; have HO253 := n0_; have HO258 := n1_; have HB := n2_; clear n0_ n1_ n2_; (try clear hb); (try clear hb2); (try clear hk); (try clear hi)))
                      go_ret
                      exact ⟨by first | rfl | (simp [errW_none, errW_some] <;> rfl) | (simp [*, errW_none, errW_some] <;> rfl), by repeat (first | (with_reducible first | exact HB.out | apply below_alloc | apply pw_below_drewN | apply below_drew1) | exact HB.out)⟩
                    · replace c24 := Bool.eq_false_iff.mpr c24
                      subst c24
                      have H1 : (some false) = some r := by rw [if_neg (show ¬ (false = true) by decide)] at H; exact H
                      clear H
                      have H := H1
                      clear H1
                      obtain rfl := Option.some.inj H
                      exact absurd HR.out (by decide) -- leaf 3
                  · rw [if_neg c22] at H
                    have c22b0 : (t251 == 0) = false := beq_eq_false_iff_ne.mpr c22
                    have c22b1 : (t251 != 0) = true := bne_iff_ne.mpr c22
                    by_cases c35 : (t249.length : Int) = 0
                    · rw [if_pos c35] at H
                      have c35b0 : ((t249.length : Int) == 0) = true := beq_iff_eq.mpr c35
                      have c35b1 : ((t249.length : Int) != 0) = false := bne_eq_false_iff_eq.mpr c35
                      clear c35
                      by_cases c36 : (t254.length : Int) = 0
                      · rw [if_pos c36] at H
                        have c36b0 : ((t254.length : Int) == 0) = true := beq_iff_eq.mpr c36
                        have c36b1 : ((t254.length : Int) != 0) = false := bne_eq_false_iff_eq.mpr c36
                        clear c36
                        by_cases c37 : t255 = (wrap64 (t250 + (x9_9.size : Int)))
                        · rw [if_pos c37] at H
                          have c37b0 : (t255 == (wrap64 (t250 + (x9_9.size : Int)))) = true := beq_iff_eq.mpr c37
                          have c37b1 : (t255 != (wrap64 (t250 + (x9_9.size : Int)))) = false := bne_eq_false_iff_eq.mpr c37
                          clear c37
                          replace H := Option.bind_eq_some_iff.mp H
                          obtain ⟨t261, A380, H⟩ := H
                          replace H : (some t261) = some r := H
                          have A38 := Aside0.mk A380
                          clear A380
                          obtain rfl := Option.some.inj H
                          go_wp2_with (first | ((with_reducible refine gate_callee (f := 10) rfl ?_); refine goesL_ (some 47) rfl rfl Tryd.func10 (by kernel_rfl) rfl #[.string a0] rfl (by (try simp only [List.map_toArray, List.map_cons, List.map_nil]); first | done | rfl | (simp only [List.length_drop, List.length_take]; rfl)) ?_; (with_reducible refine (lex_Tokens.calls a0 t249 t250 t251 _ A18.out (LaidL.below HL (by repeat (first | (with_reducible first | exact HB.out | apply below_alloc | apply pw_below_drewN | apply below_drew1) | exact HB.out)))).mono ?_); rintro e w39 ⟨v252, rfl, ho0, hb⟩; refine ⟨_, rfl, ?_⟩; have n0_ := Aside0.mk (Kd.R_lower ho0 (below_size (by repeat (first | (with_reducible first | exact HB.out | apply below_alloc | apply pw_below_drewN | apply below_drew1) | exact HB.out)))); have n1_ := Aside0.mk (below_step (by repeat (first | (with_reducible first | exact HB.out | apply below_alloc | apply pw_below_drewN | apply below_drew1) | exact HB.out)) hb); clear HB; have HO253 := n0_; have HB := n1_; clear n0_ n1_; (try clear hb); (try clear hb2); (try clear hk); (try clear hi); (try clear ho0)) | ((with_reducible refine gate_callee (f := 10) rfl ?_); refine goesL_ (some 55) rfl rfl Tryd.func10 (by kernel_rfl) rfl #[.string (x9_9 ++ a0)] rfl (by (try simp only [List.map_toArray, List.map_cons, List.map_nil]); first | done | rfl | (simp only [List.length_drop, List.length_take]; rfl)) ?_; (with_reducible refine (lex_Tokens.calls (x9_9 ++ a0) t254 t255 t256 _ A20.out (LaidL.below HL (by repeat (first | (with_reducible first | exact HB.out | apply below_alloc | apply pw_below_drewN | apply below_drew1) | exact HB.out)))).mono ?_); rintro e w40 ⟨v257, rfl, ho0, hb⟩; refine ⟨_, rfl, ?_⟩; have n0_ := Aside0.mk (Kd.R_elder' (by (with_reducible repeat (first | apply Kd.R_alloc | apply Kd.R_drewN | apply Kd.R_drew)); exact HO253.out) (Kd.R_base ho0) hb); have n1_ := Aside0.mk (Kd.R_lower (Kd.R_new' ho0 (Kd.R_lt (by (with_reducible repeat (first | apply Kd.R_alloc | apply Kd.R_drewN | apply Kd.R_drew)); exact HO253.out))) (below_size (by repeat (first | (with_reducible first | exact HB.out | apply below_alloc | apply pw_below_drewN | apply below_drew1) | exact HB.out)))); have n2_ := Aside0.mk (below_step (by repeat (first | (with_reducible first | exact HB.out | apply below_alloc | apply pw_below_drewN | apply below_drew1) | exact HB.out)) hb); clear HO253; clear HB; have HO253 := n0_; have HO258 := n1_; have HB := n2_; clear n0_ n1_ n2_; (try clear hb); (try clear hb2); (try clear hk); (try clear hi); (try clear ho0); obtain ⟨Ao41, co41, eo41⟩ := Kd.R_slice HO253.out; subst eo41; obtain ⟨Ao42, co42, eo42⟩ := Kd.R_slice HO258.out; subst eo42) | (go_at_call 12; (with_reducible refine (jointerlaw02_awake.calls  t261 _ A38.out (LaidL.below HL (by repeat (first | (with_reducible first | exact HB.out | apply below_alloc | apply pw_below_drewN | apply below_drew1) | exact HB.out)))).mono ?_); rintro e w43 ⟨rfl, hb⟩; have n0_ := Aside0.mk (Kd.R_below (by (with_reducible repeat (first | apply Kd.R_alloc | apply Kd.R_drewN | apply Kd.R_drew)); exact HO253.out) hb); have n1_ := Aside0.mk (Kd.R_below (by (with_reducible repeat (first | apply Kd.R_alloc | apply Kd.R_drewN | apply Kd.R_drew)); exact HO258.out) hb); have n2_ := Aside0.mk (below_step (by repeat (first | (with_reducible first | exact HB.out | apply below_alloc | apply pw_below_drewN | apply below_drew1) | exact HB.out)) hb); clear HO253; clear HO258; clear HB; have HO253 := n0_; have HO258 := n1_; have HB := n2_; clear n0_ n1_ n2_; (try clear hb); (try clear hb2); (try clear hk); (try clear hi)))
                          go_ret
                          exact ⟨by first | rfl | (simp [errW_none, errW_some] <;> rfl) | (simp [*, errW_none, errW_some] <;> rfl), by repeat (first | (with_reducible first | exact HB.out | apply below_alloc | apply pw_below_drewN | apply below_drew1) | exact HB.out)⟩
                        · rw [if_neg c37] at H
                          have c37b0 : (t255 == (wrap64 (t250 + (x9_9.size : Int)))) = false := beq_eq_false_iff_ne.mpr c37
                          have c37b1 : (t255 != (wrap64 (t250 + (x9_9.size : Int)))) = true := bne_iff_ne.mpr c37
                          obtain rfl := Option.some.inj H
                          exact absurd HR.out (by decide) -- leaf 5
                      · rw [if_neg c36] at H
                        have c36b0 : ((t254.length : Int) == 0) = false := beq_eq_false_iff_ne.mpr c36
                        have c36b1 : ((t254.length : Int) != 0) = true := bne_iff_ne.mpr c36
                        have c36b2 : ¬ (t254 = []) := fun h_ => c36 (by rw [h_]; rfl)
                        obtain rfl := Option.some.inj H
                        exact absurd HR.out (by decide) -- leaf 6
                    · rw [if_neg c35] at H
                      have c35b0 : ((t249.length : Int) == 0) = false := beq_eq_false_iff_ne.mpr c35
                      have c35b1 : ((t249.length : Int) != 0) = true := bne_iff_ne.mpr c35
                      have c35b2 : ¬ (t249 = []) := fun h_ => c35 (by rw [h_]; rfl)
                      obtain rfl := Option.some.inj H
                      exact absurd HR.out (by decide) -- leaf 7
                · rw [if_neg c21] at H
                  have c21b0 : (t251 == t256) = false := beq_eq_false_iff_ne.mpr c21
                  have c21b1 : (t251 != t256) = true := bne_iff_ne.mpr c21
                  obtain rfl := Option.some.inj H
                  exact absurd HR.out (by decide) -- leaf 8
              · rw [if_neg c19] at H
                exact absurd H (by simp)

/-- THE ONE PURE STATEMENT of jointerlaw02_LexMoves: yours. -/
def jointerlaw02_LexMoves.Pure : Prop := ∀ (a0 : ByteArray) (a1 : ByteArray) (a2 : Int) (a3 : Int), a0.size ≤ 140737488351232 → a1.size ≤ 140737488351232 → (Lit.int .u8 a2).wf = true → (Lit.int .i64 a3).wf = true → ∃ k, jointerlaw02_LexMoves.f k a0 a1 a2 a3 = some true
theorem jointerlaw02_LexMoves.walk (P : jointerlaw02_LexMoves.Pure) (a0 : ByteArray) (a1 : ByteArray) (a2 : Int) (a3 : Int) (w : World) (w0 : a0.size ≤ 140737488351232) (w1 : a1.size ≤ 140737488351232) (w2 : (Lit.int .u8 a2).wf = true) (w3 : (Lit.int .i64 a3).wf = true) (hL : LaidL w) :
    Calls Tryd.prog 4 #[.string a0, .string a1, .int .u8 a2, .int .i64 a3] w fun e w' => e = .returned (.bool true) ∧ Below w.heap.size w w' := by
  obtain ⟨k, h⟩ := P a0 a1 a2 a3 w0 w1 w2 w3
  refine (jointerlaw02_LexMoves.calls k a0 a1 a2 a3 true w rfl h hL).mono ?_
  rintro e w' ⟨rfl, hd⟩
  exact ⟨rfl, hd⟩

end Go.Proofs.YtaibkpbiccibjaaDoor.PAll
