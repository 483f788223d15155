import Derived.Test.YtafdoogghalpjaaGreatDoorVFa
import Derived.Test.YtafdoogghalpjaaGreatDoorVWords
namespace Go.Proofs.YtafdoogghalpjaaGreatDoor.PAll
open Go.Proofs.YtafdoogghalpjaaGreatDoor.Words Go.RowKit Go.Proofs.YtafdoogghalpjaaGreatDoorW.PrintWords Go.Proofs.YtafdoogghalpjaaGreatDoorW.PrintLast Go.Proofs.YtafdoogghalpjaaGreatDoorW.PrintMore
attribute [local go_sem] max2_int min2_int max_two min_two max_three min_three max_four min_four   -- for this text's walks alone
set_option linter.unusedVariables false
set_option linter.unusedSimpArgs false

attribute [local go_sem high] eqA24
/-! ### slices_CompareFunc: function 62 -/
def slices_CompareFunc.l0 : Nat → List (S24) → List (S24) → List (S24) → Int → Int → Option (Int)
  | 0, _, _, _, _, _ => none
  | k + 1, x0, x1, x11, x12, x13 => if x13 < x12 then (if 0 ≤ x13 then (if x13 < (x11.length : Int) then (if x13 ≥ (x1.length : Int) then (some 1) else (if x13 < (x1.length : Int) then ((value_Compare.f k ((rd_T24 x11 x13).f0) ((rd_T24 x11 x13).f1) ((rd_T24 x11 x13).f2) ((rd_T24 x1 x13).f0) ((rd_T24 x1 x13).f1) ((rd_T24 x1 x13).f2)).bind fun t360 => (if t360 = 0 then (slices_CompareFunc.l0 k x0 x1 x11 x12 (wrap64 (x13 + 1))) else (some t360))) else (none))) else (none)) else (none)) else (if (x0.length : Int) < (x1.length : Int) then (some (-1)) else (some 0))
def slices_CompareFunc.f (k : Nat) (l0 : List (S24)) (l1 : List (S24)) : Option (Int) := slices_CompareFunc.l0 k l0 l1 l0 (l0.length : Int) 0
theorem slices_CompareFunc.mono_l : ∀ k, (∀ y0 y1 y2 y3 y4, LeO (slices_CompareFunc.l0 k y0 y1 y2 y3 y4) (slices_CompareFunc.l0 (k + 1) y0 y1 y2 y3 y4))
  | 0 => fun _ _ _ _ _ r h => by simp [slices_CompareFunc.l0] at h
  | k + 1 => by
    have ih0 := slices_CompareFunc.mono_l k
    · intro y0 y1 y2 y3 y4
      unfold slices_CompareFunc.l0
      repeat' first
      | (with_reducible exact ih0 _ _ _ _ _)
      | (with_reducible exact value_Compare.mono _ _ _ _ _ _ _)
      | (with_reducible exact LeO.refl _)
      | (with_reducible exact LeO.none _)
      | (with_reducible refine LeO.ite ?_ ?_)
      | (with_reducible refine LeO.bind ?_ (fun _ => ?_))
      | exact ih0 _ _ _ _ _
      | exact value_Compare.mono _ _ _ _ _ _ _
      | exact LeO.none _
      | refine LeO.ite ?_ ?_
      | refine LeO.bind ?_ (fun _ => ?_)
theorem slices_CompareFunc.mono : ∀ a0 a1 k, LeO (slices_CompareFunc.f k a0 a1) (slices_CompareFunc.f (k + 1) a0 a1) := by
  intro a0 a1 k
  have ih0 := slices_CompareFunc.mono_l k
  unfold slices_CompareFunc.f
  repeat' first
      | (with_reducible exact ih0 _ _ _ _ _)
      | (with_reducible exact value_Compare.mono _ _ _ _ _ _ _)
      | (with_reducible exact LeO.refl _)
      | (with_reducible exact LeO.none _)
      | (with_reducible refine LeO.ite ?_ ?_)
      | (with_reducible refine LeO.bind ?_ (fun _ => ?_))
      | exact ih0 _ _ _ _ _
      | exact value_Compare.mono _ _ _ _ _ _ _
      | exact LeO.none _
      | refine LeO.ite ?_ ?_
      | refine LeO.bind ?_ (fun _ => ?_)
set_option maxHeartbeats 8000000 in
set_option maxRecDepth 100000 in
theorem slices_CompareFunc.calls (k : Nat) (A0 : Option Addr) (c0 : Nat) (l0 : List (S24)) (A1 : Option Addr) (c1 : Nat) (l1 : List (S24)) (r : Int) (w : World) (hr0 : Kd.C k24 w A0 l0.length l0) (hc0 : l0.length ≤ c0) (hr1 : Kd.C k24 w A1 l1.length l1) (hc1 : l1.length ≤ c1) (h : slices_CompareFunc.f k l0 l1 = some r) :
    Calls Tryz.prog 62 #[.slice A0 l0.length c0, .slice A1 l1.length c1, .func (.func 13) #[] #[]] w fun e w' => e = .returned (.int .i64 r) ∧ Below w.heap.size w w' := by
  have hu24 := Tryz.underlying24
  have HR0 := Aside0.mk hr0
  have HC0 := Aside0.mk hc0
  clear hr0 hc0
  have HR1 := Aside0.mk hr1
  have HC1 := Aside0.mk hc1
  clear hr1 hc1
  have HB := Aside0.mk (Below.refl w.heap.size w)
  have H : (slices_CompareFunc.l0 k l0 l1 l0 (l0.length : Int) 0) = some r := h
  clear h
  have H' := Aside0.mk H
  clear H
  go_enter Tryz.func62, Tryz.ntmps62
  go_wp2
  go_loopg [13] k (fun kq v13 w' => ∃ (x13_1 : Int), v13 = .int .i64 x13_1 ∧ Aside0 (slices_CompareFunc.l0 kq l0 l1 l0 (l0.length : Int) x13_1 = some r) ∧ Aside0 (kq ≤ k) ∧ Aside0 (Below w.heap.size w w'))
  case atStart => exact ⟨(0), (by first | rfl | (simp; done) | (simp [*]; done)), H', ⟨Nat.le_refl _⟩, ⟨by repeat (first | (with_reducible first | exact HB.out | apply below_alloc | apply pw_below_drewN | apply below_drew1) | exact HB.out)⟩⟩
  case round =>
    clear H'
    try clear c1
    try clear p2
    obtain ⟨x13_1, rfl, HA, HK1, HB⟩ := hrel
    cases gk with
    | zero => exact absurd HA.out (by simp [slices_CompareFunc.l0])
    | succ k1 =>
      have H := HA.out
      clear HA
      simp only [slices_CompareFunc.l0] at H
      by_cases c4 : x13_1 < (l0.length : Int)
      · rw [if_pos c4] at H
        have c4b0 : decide (x13_1 < (l0.length : Int)) = true := decide_eq_true c4
        clear c4
        by_cases c5 : 0 ≤ x13_1
        · rw [if_pos c5] at H
          have c5b0 : decide (0 ≤ x13_1) = true := decide_eq_true c5
          clear c5
          by_cases c6 : x13_1 < (l0.length : Int)
          · rw [if_pos c6] at H
            have c6b0 : decide (x13_1 < (l0.length : Int)) = true := decide_eq_true c6
            clear c6
            by_cases c7 : x13_1 ≥ (l1.length : Int)
            · rw [if_pos c7] at H
              have c7b0 : decide ((l1.length : Int) ≤ x13_1) = true := decide_eq_true c7
              clear c7
              obtain rfl := Option.some.inj H
              have p356 : 0 ≤ (x13_1 : Int) := of_decide_eq_true (by first | (with_reducible assumption) | assumption)
              have q356 : x13_1 < (l0.length : Int) := of_decide_eq_true (by first | (with_reducible assumption) | assumption)
              obtain ⟨ad356, e356, hx356_0, hx356_1, hx356_2⟩ := at_T24 HR0.out x13_1 p356 q356
              cases e356
              replace hx356_0 := (HB.out.cell (World.block_lt_of_cell? w _ hx356_0)).trans hx356_0
              replace hx356_1 := (HB.out.cell (World.block_lt_of_cell? w _ hx356_1)).trans hx356_1
              replace hx356_2 := (HB.out.cell (World.block_lt_of_cell? w _ hx356_2)).trans hx356_2
              replace p356 := eq_true p356
              replace q356 := eq_true q356
              go_wp2_with (first | ((with_reducible refine gate_dst (N := 8) rfl ?_); refine box_event ?hg (N := 8) ?hd (cs := #[.int .u8 0, .int .i64 0, .string (⟨#[]⟩ : ByteArray)]) (t := 24) ?hr ?_; (case hd => rfl); (case hg => rfl); (case hr => first | (go_simp; done) | (go_simp; rfl)); intro gb357 hg w8 hbox hb; have n0_ := Aside0.mk (below_step (by repeat (first | (with_reducible first | exact HB.out | apply below_alloc | apply pw_below_drewN | apply below_drew1) | exact HB.out)) hb); have n1_ := Aside0.mk (hbox); have n2_ := Aside0.mk ((by rw [hg]; exact (below_size (by repeat (first | (with_reducible first | exact HB.out | apply below_alloc | apply pw_below_drewN | apply below_drew1) | exact HB.out))) : w.heap.size ≤ gb357)); have n3_ := Aside0.mk ((by rw [hg]; exact (below_size (by repeat (first | (with_reducible first | exact HB.out | apply below_alloc | apply pw_below_drewN | apply below_drew1) | exact HB.out))) : w.heap.size ≤ gb357)); clear HB; have HB := n0_; have BK357 := n1_; have GW357 := n2_; have GE357 := n3_; clear n0_ n1_ n2_ n3_; clear hb hbox hg; have hcz9_0 : w8.cell? ⟨gb357, 0, none⟩ = some (.int .u8 0) := (blk_cell BK357.out 0).trans rfl; have hcz9_1 : w8.cell? ⟨gb357, 1, none⟩ = some (.int .i64 0) := (blk_cell BK357.out 1).trans rfl; have hcz9_2 : w8.cell? ⟨gb357, 2, none⟩ = some (.string (⟨#[]⟩ : ByteArray)) := (blk_cell BK357.out 2).trans rfl; have hfz9_0 := blk_frozen BK357.out 0; have hfz9_1 := blk_frozen BK357.out 1; have hfz9_2 := blk_frozen BK357.out 2))
              go_ret
              exact ⟨by first | rfl | (simp [errW_none, errW_some] <;> rfl) | (simp [*, errW_none, errW_some] <;> rfl), by repeat (first | (with_reducible first | exact HB.out | apply below_alloc | apply pw_below_drewN | apply below_drew1 | refine below_set ?_ GE357.out) | exact HB.out)⟩
            · rw [if_neg c7] at H
              have c7b0 : decide ((l1.length : Int) ≤ x13_1) = false := decide_eq_false c7
              clear c7
              by_cases c10 : x13_1 < (l1.length : Int)
              · rw [if_pos c10] at H
                have c10b0 : decide (x13_1 < (l1.length : Int)) = true := decide_eq_true c10
                clear c10
                replace H := Option.bind_eq_some_iff.mp H
                obtain ⟨t360, A110, H⟩ := H
                replace H : (if t360 = 0 then (slices_CompareFunc.l0 k1 l0 l1 l0 (l0.length : Int) (wrap64 (x13_1 + 1))) else (some t360)) = some r := H
                have A11 := Aside0.mk A110
                clear A110
                by_cases c12 : t360 = 0
                · rw [if_pos c12] at H
                  have c12b0 : (t360 == 0) = true := beq_iff_eq.mpr c12
                  have c12b1 : (t360 != 0) = false := bne_eq_false_iff_eq.mpr c12
                  clear c12
                  have H' := Aside0.mk H
                  clear H
                  have p356 : 0 ≤ (x13_1 : Int) := of_decide_eq_true (by first | (with_reducible assumption) | assumption)
                  have q356 : x13_1 < (l0.length : Int) := of_decide_eq_true (by first | (with_reducible assumption) | assumption)
                  obtain ⟨ad356, e356, hx356_0, hx356_1, hx356_2⟩ := at_T24 HR0.out x13_1 p356 q356
                  cases e356
                  replace hx356_0 := (HB.out.cell (World.block_lt_of_cell? w _ hx356_0)).trans hx356_0
                  replace hx356_1 := (HB.out.cell (World.block_lt_of_cell? w _ hx356_1)).trans hx356_1
                  replace hx356_2 := (HB.out.cell (World.block_lt_of_cell? w _ hx356_2)).trans hx356_2
                  replace p356 := eq_true p356
                  replace q356 := eq_true q356
                  go_wp2_with (first | ((with_reducible refine gate_dst (N := 8) rfl ?_); refine box_event ?hg (N := 8) ?hd (cs := #[.int .u8 0, .int .i64 0, .string (⟨#[]⟩ : ByteArray)]) (t := 24) ?hr ?_; (case hd => rfl); (case hg => rfl); (case hr => first | (go_simp; done) | (go_simp; rfl)); intro gb357 hg w13 hbox hb; have n0_ := Aside0.mk (below_step (by repeat (first | (with_reducible first | exact HB.out | apply below_alloc | apply pw_below_drewN | apply below_drew1) | exact HB.out)) hb); have n1_ := Aside0.mk (hbox); have n2_ := Aside0.mk ((by rw [hg]; exact (below_size (by repeat (first | (with_reducible first | exact HB.out | apply below_alloc | apply pw_below_drewN | apply below_drew1) | exact HB.out))) : w.heap.size ≤ gb357)); have n3_ := Aside0.mk ((by rw [hg]; exact (below_size (by repeat (first | (with_reducible first | exact HB.out | apply below_alloc | apply pw_below_drewN | apply below_drew1) | exact HB.out))) : w.heap.size ≤ gb357)); clear HB; have HB := n0_; have BK357 := n1_; have GW357 := n2_; have GE357 := n3_; clear n0_ n1_ n2_ n3_; clear hb hbox hg; have hcz14_0 : w13.cell? ⟨gb357, 0, none⟩ = some (.int .u8 0) := (blk_cell BK357.out 0).trans rfl; have hcz14_1 : w13.cell? ⟨gb357, 1, none⟩ = some (.int .i64 0) := (blk_cell BK357.out 1).trans rfl; have hcz14_2 : w13.cell? ⟨gb357, 2, none⟩ = some (.string (⟨#[]⟩ : ByteArray)) := (blk_cell BK357.out 2).trans rfl; have hfz14_0 := blk_frozen BK357.out 0; have hfz14_1 := blk_frozen BK357.out 1; have hfz14_2 := blk_frozen BK357.out 2; have p358 : 0 ≤ (x13_1 : Int) := of_decide_eq_true (by first | (with_reducible assumption) | assumption); have q358 : x13_1 < (l1.length : Int) := of_decide_eq_true (by first | (with_reducible assumption) | assumption); obtain ⟨ad358, e358, hx358_0, hx358_1, hx358_2⟩ := at_T24 HR1.out x13_1 p358 q358; cases e358; have hn358_0 : ad358.block ≠ gb357 := Nat.ne_of_lt (Nat.lt_of_lt_of_le (by have := World.block_lt_of_cell? _ _ hx358_0; first | rwa [add_block] at this | exact this) GW357.out); have hn358_1 : ad358.block ≠ gb357 := Nat.ne_of_lt (Nat.lt_of_lt_of_le (by have := World.block_lt_of_cell? _ _ hx358_0; first | rwa [add_block] at this | exact this) GW357.out); have hn358_2 : ad358.block ≠ gb357 := Nat.ne_of_lt (Nat.lt_of_lt_of_le (by have := World.block_lt_of_cell? _ _ hx358_0; first | rwa [add_block] at this | exact this) GW357.out); replace hx358_0 := (HB.out.cell (World.block_lt_of_cell? w _ hx358_0)).trans hx358_0; replace hx358_1 := (HB.out.cell (World.block_lt_of_cell? w _ hx358_1)).trans hx358_1; replace hx358_2 := (HB.out.cell (World.block_lt_of_cell? w _ hx358_2)).trans hx358_2; replace hx358_0 := (cell_far (p := ⟨gb357, 0, none⟩) (by first | (rw [add_block]; exact hn358_0) | (show (Addr.add _ _).block ≠ _; rw [add_block]; exact hn358_0) | exact hn358_0) (.int .u8 ((rd_T24 l0 x13_1).f0))).trans hx358_0; replace hx358_1 := (cell_far (p := ⟨gb357, 0, none⟩) (by first | (rw [add_block]; exact hn358_0) | (show (Addr.add _ _).block ≠ _; rw [add_block]; exact hn358_0) | exact hn358_0) (.int .u8 ((rd_T24 l0 x13_1).f0))).trans hx358_1; replace hx358_2 := (cell_far (p := ⟨gb357, 0, none⟩) (by first | (rw [add_block]; exact hn358_0) | (show (Addr.add _ _).block ≠ _; rw [add_block]; exact hn358_0) | exact hn358_0) (.int .u8 ((rd_T24 l0 x13_1).f0))).trans hx358_2; replace hx358_0 := (cell_far (p := ⟨gb357, 1, none⟩) (by first | (rw [add_block]; exact hn358_1) | (show (Addr.add _ _).block ≠ _; rw [add_block]; exact hn358_1) | exact hn358_1) (.int .i64 ((rd_T24 l0 x13_1).f1))).trans hx358_0; replace hx358_1 := (cell_far (p := ⟨gb357, 1, none⟩) (by first | (rw [add_block]; exact hn358_1) | (show (Addr.add _ _).block ≠ _; rw [add_block]; exact hn358_1) | exact hn358_1) (.int .i64 ((rd_T24 l0 x13_1).f1))).trans hx358_1; replace hx358_2 := (cell_far (p := ⟨gb357, 1, none⟩) (by first | (rw [add_block]; exact hn358_1) | (show (Addr.add _ _).block ≠ _; rw [add_block]; exact hn358_1) | exact hn358_1) (.int .i64 ((rd_T24 l0 x13_1).f1))).trans hx358_2; replace hx358_0 := (cell_far (p := ⟨gb357, 2, none⟩) (by first | (rw [add_block]; exact hn358_2) | (show (Addr.add _ _).block ≠ _; rw [add_block]; exact hn358_2) | exact hn358_2) (.string ((rd_T24 l0 x13_1).f2))).trans hx358_0; replace hx358_1 := (cell_far (p := ⟨gb357, 2, none⟩) (by first | (rw [add_block]; exact hn358_2) | (show (Addr.add _ _).block ≠ _; rw [add_block]; exact hn358_2) | exact hn358_2) (.string ((rd_T24 l0 x13_1).f2))).trans hx358_1; replace hx358_2 := (cell_far (p := ⟨gb357, 2, none⟩) (by first | (rw [add_block]; exact hn358_2) | (show (Addr.add _ _).block ≠ _; rw [add_block]; exact hn358_2) | exact hn358_2) (.string ((rd_T24 l0 x13_1).f2))).trans hx358_2; clear hn358_0; clear hn358_1; clear hn358_2; replace p358 := eq_true p358; replace q358 := eq_true q358) | ((with_reducible refine gate_dst (N := 9) rfl ?_); refine box_event ?hg (N := 9) ?hd (cs := #[.int .u8 0, .int .i64 0, .string (⟨#[]⟩ : ByteArray)]) (t := 24) ?hr ?_; (case hd => rfl); (case hg => rfl); (case hr => first | (go_simp; done) | (go_simp; rfl)); intro gb359 hg w15 hbox hb; have n0_ := Aside0.mk (blk_below (g := gb357) (o := .cells #[.int .u8 ((rd_T24 l0 x13_1).f0), .int .i64 ((rd_T24 l0 x13_1).f1), .string ((rd_T24 l0 x13_1).f2)] 24 (0, 0)) (by (with_reducible repeat (first | refine blk_drewN ?_ _ | refine blk_drew ?_ | refine blk_alloc ?_ _)); refine blk_put (cs := #[.int .u8 ((rd_T24 l0 x13_1).f0), .int .i64 ((rd_T24 l0 x13_1).f1), .string (⟨#[]⟩ : ByteArray)]) ?_ 2 _ rfl; (with_reducible repeat (first | refine blk_drewN ?_ _ | refine blk_drew ?_ | refine blk_alloc ?_ _)); refine blk_put (cs := #[.int .u8 ((rd_T24 l0 x13_1).f0), .int .i64 0, .string (⟨#[]⟩ : ByteArray)]) ?_ 1 _ rfl; (with_reducible repeat (first | refine blk_drewN ?_ _ | refine blk_drew ?_ | refine blk_alloc ?_ _)); refine blk_put (cs := #[.int .u8 0, .int .i64 0, .string (⟨#[]⟩ : ByteArray)]) ?_ 0 _ rfl; (with_reducible repeat (first | refine blk_drewN ?_ _ | refine blk_drew ?_ | refine blk_alloc ?_ _)); exact BK357.out) hb); have n1_ := Aside0.mk (below_step (by repeat (first | (with_reducible first | exact HB.out | apply below_alloc | apply pw_below_drewN | apply below_drew1 | refine below_set ?_ GE357.out) | exact HB.out)) hb); have n2_ := Aside0.mk (hbox); have n3_ := Aside0.mk ((by rw [hg]; exact (below_size (by repeat (first | (with_reducible first | exact HB.out | apply below_alloc | apply pw_below_drewN | apply below_drew1 | refine below_set ?_ GE357.out) | exact HB.out))) : w.heap.size ≤ gb359)); have n4_ := Aside0.mk ((by rw [hg]; exact (below_size (by repeat (first | (with_reducible first | exact HB.out | apply below_alloc | apply pw_below_drewN | apply below_drew1 | refine below_set ?_ GE357.out) | exact HB.out))) : w.heap.size ≤ gb359)); have n5_ := Aside0.mk ((by rw [hg]; exact Nat.ne_of_lt (blk_lt (g := gb357) (o := .cells #[.int .u8 ((rd_T24 l0 x13_1).f0), .int .i64 ((rd_T24 l0 x13_1).f1), .string ((rd_T24 l0 x13_1).f2)] 24 (0, 0)) (by (with_reducible repeat (first | refine blk_drewN ?_ _ | refine blk_drew ?_ | refine blk_alloc ?_ _)); refine blk_put (cs := #[.int .u8 ((rd_T24 l0 x13_1).f0), .int .i64 ((rd_T24 l0 x13_1).f1), .string (⟨#[]⟩ : ByteArray)]) ?_ 2 _ rfl; (with_reducible repeat (first | refine blk_drewN ?_ _ | refine blk_drew ?_ | refine blk_alloc ?_ _)); refine blk_put (cs := #[.int .u8 ((rd_T24 l0 x13_1).f0), .int .i64 0, .string (⟨#[]⟩ : ByteArray)]) ?_ 1 _ rfl; (with_reducible repeat (first | refine blk_drewN ?_ _ | refine blk_drew ?_ | refine blk_alloc ?_ _)); refine blk_put (cs := #[.int .u8 0, .int .i64 0, .string (⟨#[]⟩ : ByteArray)]) ?_ 0 _ rfl; (with_reducible repeat (first | refine blk_drewN ?_ _ | refine blk_drew ?_ | refine blk_alloc ?_ _)); exact BK357.out)) : gb357 ≠ gb359)); have n6_ := Aside0.mk ((by rw [hg]; exact Nat.ne_of_gt (blk_lt (g := gb357) (o := .cells #[.int .u8 ((rd_T24 l0 x13_1).f0), .int .i64 ((rd_T24 l0 x13_1).f1), .string ((rd_T24 l0 x13_1).f2)] 24 (0, 0)) (by (with_reducible repeat (first | refine blk_drewN ?_ _ | refine blk_drew ?_ | refine blk_alloc ?_ _)); refine blk_put (cs := #[.int .u8 ((rd_T24 l0 x13_1).f0), .int .i64 ((rd_T24 l0 x13_1).f1), .string (⟨#[]⟩ : ByteArray)]) ?_ 2 _ rfl; (with_reducible repeat (first | refine blk_drewN ?_ _ | refine blk_drew ?_ | refine blk_alloc ?_ _)); refine blk_put (cs := #[.int .u8 ((rd_T24 l0 x13_1).f0), .int .i64 0, .string (⟨#[]⟩ : ByteArray)]) ?_ 1 _ rfl; (with_reducible repeat (first | refine blk_drewN ?_ _ | refine blk_drew ?_ | refine blk_alloc ?_ _)); refine blk_put (cs := #[.int .u8 0, .int .i64 0, .string (⟨#[]⟩ : ByteArray)]) ?_ 0 _ rfl; (with_reducible repeat (first | refine blk_drewN ?_ _ | refine blk_drew ?_ | refine blk_alloc ?_ _)); exact BK357.out)) : gb359 ≠ gb357)); clear BK357; clear HB; have BK357 := n0_; have HB := n1_; have BK359 := n2_; have GW359 := n3_; have GE359 := n4_; have NB357_359 := n5_; have NB359_357 := n6_; clear n0_ n1_ n2_ n3_ n4_ n5_ n6_; clear hb hbox hg; have hnb16 := NB359_357.out; have hnc16 := NB357_359.out; have hcz17_0 : w15.cell? ⟨gb359, 0, none⟩ = some (.int .u8 0) := (blk_cell BK359.out 0).trans rfl; have hcz17_1 : w15.cell? ⟨gb359, 1, none⟩ = some (.int .i64 0) := (blk_cell BK359.out 1).trans rfl; have hcz17_2 : w15.cell? ⟨gb359, 2, none⟩ = some (.string (⟨#[]⟩ : ByteArray)) := (blk_cell BK359.out 2).trans rfl; have hfz17_0 := blk_frozen BK359.out 0; have hfz17_1 := blk_frozen BK359.out 1; have hfz17_2 := blk_frozen BK359.out 2; have hcz18_0 : w15.cell? ⟨gb357, 0, none⟩ = some (.int .u8 ((rd_T24 l0 x13_1).f0)) := (blk_cell BK357.out 0).trans rfl; have hcz18_1 : w15.cell? ⟨gb357, 1, none⟩ = some (.int .i64 ((rd_T24 l0 x13_1).f1)) := (blk_cell BK357.out 1).trans rfl; have hcz18_2 : w15.cell? ⟨gb357, 2, none⟩ = some (.string ((rd_T24 l0 x13_1).f2)) := (blk_cell BK357.out 2).trans rfl; have hfz18_0 := blk_frozen BK357.out 0; have hfz18_1 := blk_frozen BK357.out 1; have hfz18_2 := blk_frozen BK357.out 2) | ((with_reducible refine gate_value (x := .tmp 26) rfl ?_); refine goesV_ (some 29) (.tmp 26) rfl rfl Tryz.func13 (by kernel_rfl) rfl #[.agg #[.int .u8 ((rd_T24 l0 x13_1).f0), .int .i64 ((rd_T24 l0 x13_1).f1), .string ((rd_T24 l0 x13_1).f2)], .agg #[.int .u8 ((rd_T24 l1 x13_1).f0), .int .i64 ((rd_T24 l1 x13_1).f1), .string ((rd_T24 l1 x13_1).f2)]] rfl (by (try simp only [List.map_toArray, List.map_cons, List.map_nil]); first | done | rfl | (simp only [List.length_drop, List.length_take]; rfl)) ?_; (with_reducible refine (value_Compare.calls k1 ((rd_T24 l0 x13_1).f0) ((rd_T24 l0 x13_1).f1) ((rd_T24 l0 x13_1).f2) ((rd_T24 l1 x13_1).f0) ((rd_T24 l1 x13_1).f1) ((rd_T24 l1 x13_1).f2) t360 _ A11.out).mono ?_); rintro e w19 ⟨rfl, hb⟩; refine ⟨_, rfl, ?_⟩; have n0_ := Aside0.mk (blk_below (g := gb357) (o := .cells #[.int .u8 ((rd_T24 l0 x13_1).f0), .int .i64 ((rd_T24 l0 x13_1).f1), .string ((rd_T24 l0 x13_1).f2)] 24 (0, 0)) (by (with_reducible repeat (first | refine blk_drewN ?_ _ | refine blk_drew ?_ | refine blk_alloc ?_ _)); refine blk_far ?_ NB357_359.out _; (with_reducible repeat (first | refine blk_drewN ?_ _ | refine blk_drew ?_ | refine blk_alloc ?_ _)); refine blk_far ?_ NB357_359.out _; (with_reducible repeat (first | refine blk_drewN ?_ _ | refine blk_drew ?_ | refine blk_alloc ?_ _)); refine blk_far ?_ NB357_359.out _; (with_reducible repeat (first | refine blk_drewN ?_ _ | refine blk_drew ?_ | refine blk_alloc ?_ _)); exact BK357.out) hb); have n1_ := Aside0.mk (blk_below (g := gb359) (o := .cells #[.int .u8 ((rd_T24 l1 x13_1).f0), .int .i64 ((rd_T24 l1 x13_1).f1), .string ((rd_T24 l1 x13_1).f2)] 24 (0, 0)) (by (with_reducible repeat (first | refine blk_drewN ?_ _ | refine blk_drew ?_ | refine blk_alloc ?_ _)); refine blk_put (cs := #[.int .u8 ((rd_T24 l1 x13_1).f0), .int .i64 ((rd_T24 l1 x13_1).f1), .string (⟨#[]⟩ : ByteArray)]) ?_ 2 _ rfl; (with_reducible repeat (first | refine blk_drewN ?_ _ | refine blk_drew ?_ | refine blk_alloc ?_ _)); refine blk_put (cs := #[.int .u8 ((rd_T24 l1 x13_1).f0), .int .i64 0, .string (⟨#[]⟩ : ByteArray)]) ?_ 1 _ rfl; (with_reducible repeat (first | refine blk_drewN ?_ _ | refine blk_drew ?_ | refine blk_alloc ?_ _)); refine blk_put (cs := #[.int .u8 0, .int .i64 0, .string (⟨#[]⟩ : ByteArray)]) ?_ 0 _ rfl; (with_reducible repeat (first | refine blk_drewN ?_ _ | refine blk_drew ?_ | refine blk_alloc ?_ _)); exact BK359.out) hb); have n2_ := Aside0.mk (below_step (by repeat (first | (with_reducible first | exact HB.out | apply below_alloc | apply pw_below_drewN | apply below_drew1 | refine below_set ?_ GE357.out | refine below_set ?_ GE359.out) | exact HB.out)) hb); clear BK357; clear BK359; clear HB; have BK357 := n0_; have BK359 := n1_; have HB := n2_; clear n0_ n1_ n2_; (try clear hb); (try clear hb2); (try clear hk); (try clear hi)))
                  go_roundg k1
                  case measure => have := HK1.out; omega
                  case rel => exact ⟨(wrap64 (x13_1 + 1)), (by first | rfl | (simp; done) | (simp [*]; done)), H', ⟨by have := HK1.out; omega⟩, ⟨by repeat (first | (with_reducible first | exact HB.out | apply below_alloc | apply pw_below_drewN | apply below_drew1 | refine below_set ?_ GE357.out | refine below_set ?_ GE359.out) | exact HB.out)⟩⟩
                · rw [if_neg c12] at H
                  have c12b0 : (t360 == 0) = false := beq_eq_false_iff_ne.mpr c12
                  have c12b1 : (t360 != 0) = true := bne_iff_ne.mpr c12
                  obtain rfl := Option.some.inj H
                  have p356 : 0 ≤ (x13_1 : Int) := of_decide_eq_true (by first | (with_reducible assumption) | assumption)
                  have q356 : x13_1 < (l0.length : Int) := of_decide_eq_true (by first | (with_reducible assumption) | assumption)
                  obtain ⟨ad356, e356, hx356_0, hx356_1, hx356_2⟩ := at_T24 HR0.out x13_1 p356 q356
                  cases e356
                  replace hx356_0 := (HB.out.cell (World.block_lt_of_cell? w _ hx356_0)).trans hx356_0
                  replace hx356_1 := (HB.out.cell (World.block_lt_of_cell? w _ hx356_1)).trans hx356_1
                  replace hx356_2 := (HB.out.cell (World.block_lt_of_cell? w _ hx356_2)).trans hx356_2
                  replace p356 := eq_true p356
                  replace q356 := eq_true q356
                  go_wp2_with (first | ((with_reducible refine gate_dst (N := 8) rfl ?_); refine box_event ?hg (N := 8) ?hd (cs := #[.int .u8 0, .int .i64 0, .string (⟨#[]⟩ : ByteArray)]) (t := 24) ?hr ?_; (case hd => rfl); (case hg => rfl); (case hr => first | (go_simp; done) | (go_simp; rfl)); intro gb357 hg w20 hbox hb; have n0_ := Aside0.mk (below_step (by repeat (first | (with_reducible first | exact HB.out | apply below_alloc | apply pw_below_drewN | apply below_drew1) | exact HB.out)) hb); have n1_ := Aside0.mk (hbox); have n2_ := Aside0.mk ((by rw [hg]; exact (below_size (by repeat (first | (with_reducible first | exact HB.out | apply below_alloc | apply pw_below_drewN | apply below_drew1) | exact HB.out))) : w.heap.size ≤ gb357)); have n3_ := Aside0.mk ((by rw [hg]; exact (below_size (by repeat (first | (with_reducible first | exact HB.out | apply below_alloc | apply pw_below_drewN | apply below_drew1) | exact HB.out))) : w.heap.size ≤ gb357)); clear HB; have HB := n0_; have BK357 := n1_; have GW357 := n2_; have GE357 := n3_; clear n0_ n1_ n2_ n3_; clear hb hbox hg; have hcz21_0 : w20.cell? ⟨gb357, 0, none⟩ = some (.int .u8 0) := (blk_cell BK357.out 0).trans rfl; have hcz21_1 : w20.cell? ⟨gb357, 1, none⟩ = some (.int .i64 0) := (blk_cell BK357.out 1).trans rfl; have hcz21_2 : w20.cell? ⟨gb357, 2, none⟩ = some (.string (⟨#[]⟩ : ByteArray)) := (blk_cell BK357.out 2).trans rfl; have hfz21_0 := blk_frozen BK357.out 0; have hfz21_1 := blk_frozen BK357.out 1; have hfz21_2 := blk_frozen BK357.out 2; have p358 : 0 ≤ (x13_1 : Int) := of_decide_eq_true (by first | (with_reducible assumption) | assumption); have q358 : x13_1 < (l1.length : Int) := of_decide_eq_true (by first | (with_reducible assumption) | assumption); obtain ⟨ad358, e358, hx358_0, hx358_1, hx358_2⟩ := at_T24 HR1.out x13_1 p358 q358; cases e358; have hn358_0 : ad358.block ≠ gb357 := Nat.ne_of_lt (Nat.lt_of_lt_of_le (by have := World.block_lt_of_cell? _ _ hx358_0; first | rwa [add_block] at this | exact this) GW357.out); have hn358_1 : ad358.block ≠ gb357 := Nat.ne_of_lt (Nat.lt_of_lt_of_le (by have := World.block_lt_of_cell? _ _ hx358_0; first | rwa [add_block] at this | exact this) GW357.out); have hn358_2 : ad358.block ≠ gb357 := Nat.ne_of_lt (Nat.lt_of_lt_of_le (by have := World.block_lt_of_cell? _ _ hx358_0; first | rwa [add_block] at this | exact this) GW357.out); replace hx358_0 := (HB.out.cell (World.block_lt_of_cell? w _ hx358_0)).trans hx358_0; replace hx358_1 := (HB.out.cell (World.block_lt_of_cell? w _ hx358_1)).trans hx358_1; replace hx358_2 := (HB.out.cell (World.block_lt_of_cell? w _ hx358_2)).trans hx358_2; replace hx358_0 := (cell_far (p := ⟨gb357, 0, none⟩) (by first | (rw [add_block]; exact hn358_0) | (show (Addr.add _ _).block ≠ _; rw [add_block]; exact hn358_0) | exact hn358_0) (.int .u8 ((rd_T24 l0 x13_1).f0))).trans hx358_0; replace hx358_1 := (cell_far (p := ⟨gb357, 0, none⟩) (by first | (rw [add_block]; exact hn358_0) | (show (Addr.add _ _).block ≠ _; rw [add_block]; exact hn358_0) | exact hn358_0) (.int .u8 ((rd_T24 l0 x13_1).f0))).trans hx358_1; replace hx358_2 := (cell_far (p := ⟨gb357, 0, none⟩) (by first | (rw [add_block]; exact hn358_0) | (show (Addr.add _ _).block ≠ _; rw [add_block]; exact hn358_0) | exact hn358_0) (.int .u8 ((rd_T24 l0 x13_1).f0))).trans hx358_2; replace hx358_0 := (cell_far (p := ⟨gb357, 1, none⟩) (by first | (rw [add_block]; exact hn358_1) | (show (Addr.add _ _).block ≠ _; rw [add_block]; exact hn358_1) | exact hn358_1) (.int .i64 ((rd_T24 l0 x13_1).f1))).trans hx358_0; replace hx358_1 := (cell_far (p := ⟨gb357, 1, none⟩) (by first | (rw [add_block]; exact hn358_1) | (show (Addr.add _ _).block ≠ _; rw [add_block]; exact hn358_1) | exact hn358_1) (.int .i64 ((rd_T24 l0 x13_1).f1))).trans hx358_1; replace hx358_2 := (cell_far (p := ⟨gb357, 1, none⟩) (by first | (rw [add_block]; exact hn358_1) | (show (Addr.add _ _).block ≠ _; rw [add_block]; exact hn358_1) | exact hn358_1) (.int .i64 ((rd_T24 l0 x13_1).f1))).trans hx358_2; replace hx358_0 := (cell_far (p := ⟨gb357, 2, none⟩) (by first | (rw [add_block]; exact hn358_2) | (show (Addr.add _ _).block ≠ _; rw [add_block]; exact hn358_2) | exact hn358_2) (.string ((rd_T24 l0 x13_1).f2))).trans hx358_0; replace hx358_1 := (cell_far (p := ⟨gb357, 2, none⟩) (by first | (rw [add_block]; exact hn358_2) | (show (Addr.add _ _).block ≠ _; rw [add_block]; exact hn358_2) | exact hn358_2) (.string ((rd_T24 l0 x13_1).f2))).trans hx358_1; replace hx358_2 := (cell_far (p := ⟨gb357, 2, none⟩) (by first | (rw [add_block]; exact hn358_2) | (show (Addr.add _ _).block ≠ _; rw [add_block]; exact hn358_2) | exact hn358_2) (.string ((rd_T24 l0 x13_1).f2))).trans hx358_2; clear hn358_0; clear hn358_1; clear hn358_2; replace p358 := eq_true p358; replace q358 := eq_true q358) | ((with_reducible refine gate_dst (N := 9) rfl ?_); refine box_event ?hg (N := 9) ?hd (cs := #[.int .u8 0, .int .i64 0, .string (⟨#[]⟩ : ByteArray)]) (t := 24) ?hr ?_; (case hd => rfl); (case hg => rfl); (case hr => first | (go_simp; done) | (go_simp; rfl)); intro gb359 hg w22 hbox hb; have n0_ := Aside0.mk (blk_below (g := gb357) (o := .cells #[.int .u8 ((rd_T24 l0 x13_1).f0), .int .i64 ((rd_T24 l0 x13_1).f1), .string ((rd_T24 l0 x13_1).f2)] 24 (0, 0)) (by (with_reducible repeat (first | refine blk_drewN ?_ _ | refine blk_drew ?_ | refine blk_alloc ?_ _)); refine blk_put (cs := #[.int .u8 ((rd_T24 l0 x13_1).f0), .int .i64 ((rd_T24 l0 x13_1).f1), .string (⟨#[]⟩ : ByteArray)]) ?_ 2 _ rfl; (with_reducible repeat (first | refine blk_drewN ?_ _ | refine blk_drew ?_ | refine blk_alloc ?_ _)); refine blk_put (cs := #[.int .u8 ((rd_T24 l0 x13_1).f0), .int .i64 0, .string (⟨#[]⟩ : ByteArray)]) ?_ 1 _ rfl; (with_reducible repeat (first | refine blk_drewN ?_ _ | refine blk_drew ?_ | refine blk_alloc ?_ _)); refine blk_put (cs := #[.int .u8 0, .int .i64 0, .string (⟨#[]⟩ : ByteArray)]) ?_ 0 _ rfl; (with_reducible repeat (first | refine blk_drewN ?_ _ | refine blk_drew ?_ | refine blk_alloc ?_ _)); exact BK357.out) hb); have n1_ := Aside0.mk (below_step (by repeat (first | (with_reducible first | exact HB.out | apply below_alloc | apply pw_below_drewN | apply below_drew1 | refine below_set ?_ GE357.out) | exact HB.out)) hb); have n2_ := Aside0.mk (hbox); have n3_ := Aside0.mk ((by rw [hg]; exact (below_size (by repeat (first | (with_reducible first | exact HB.out | apply below_alloc | apply pw_below_drewN | apply below_drew1 | refine below_set ?_ GE357.out) | exact HB.out))) : w.heap.size ≤ gb359)); have n4_ := Aside0.mk ((by rw [hg]; exact (below_size (by repeat (first | (with_reducible first | exact HB.out | apply below_alloc | apply pw_below_drewN | apply below_drew1 | refine below_set ?_ GE357.out) | exact HB.out))) : w.heap.size ≤ gb359)); have n5_ := Aside0.mk ((by rw [hg]; exact Nat.ne_of_lt (blk_lt (g := gb357) (o := .cells #[.int .u8 ((rd_T24 l0 x13_1).f0), .int .i64 ((rd_T24 l0 x13_1).f1), .string ((rd_T24 l0 x13_1).f2)] 24 (0, 0)) (by (with_reducible repeat (first | refine blk_drewN ?_ _ | refine blk_drew ?_ | refine blk_alloc ?_ _)); refine blk_put (cs := #[.int .u8 ((rd_T24 l0 x13_1).f0), .int .i64 ((rd_T24 l0 x13_1).f1), .string (⟨#[]⟩ : ByteArray)]) ?_ 2 _ rfl; (with_reducible repeat (first | refine blk_drewN ?_ _ | refine blk_drew ?_ | refine blk_alloc ?_ _)); refine blk_put (cs := #[.int .u8 ((rd_T24 l0 x13_1).f0), .int .i64 0, .string (⟨#[]⟩ : ByteArray)]) ?_ 1 _ rfl; (with_reducible repeat (first | refine blk_drewN ?_ _ | refine blk_drew ?_ | refine blk_alloc ?_ _)); refine blk_put (cs := #[.int .u8 0, .int .i64 0, .string (⟨#[]⟩ : ByteArray)]) ?_ 0 _ rfl; (with_reducible repeat (first | refine blk_drewN ?_ _ | refine blk_drew ?_ | refine blk_alloc ?_ _)); exact BK357.out)) : gb357 ≠ gb359)); have n6_ := Aside0.mk ((by rw [hg]; exact Nat.ne_of_gt (blk_lt (g := gb357) (o := .cells #[.int .u8 ((rd_T24 l0 x13_1).f0), .int .i64 ((rd_T24 l0 x13_1).f1), .string ((rd_T24 l0 x13_1).f2)] 24 (0, 0)) (by (with_reducible repeat (first | refine blk_drewN ?_ _ | refine blk_drew ?_ | refine blk_alloc ?_ _)); refine blk_put (cs := #[.int .u8 ((rd_T24 l0 x13_1).f0), .int .i64 ((rd_T24 l0 x13_1).f1), .string (⟨#[]⟩ : ByteArray)]) ?_ 2 _ rfl; (with_reducible repeat (first | refine blk_drewN ?_ _ | refine blk_drew ?_ | refine blk_alloc ?_ _)); refine blk_put (cs := #[.int .u8 ((rd_T24 l0 x13_1).f0), .int .i64 0, .string (⟨#[]⟩ : ByteArray)]) ?_ 1 _ rfl; (with_reducible repeat (first | refine blk_drewN ?_ _ | refine blk_drew ?_ | refine blk_alloc ?_ _)); refine blk_put (cs := #[.int .u8 0, .int .i64 0, .string (⟨#[]⟩ : ByteArray)]) ?_ 0 _ rfl; (with_reducible repeat (first | refine blk_drewN ?_ _ | refine blk_drew ?_ | refine blk_alloc ?_ _)); exact BK357.out)) : gb359 ≠ gb357)); clear BK357; clear HB; have BK357 := n0_; have HB := n1_; have BK359 := n2_; have GW359 := n3_; have GE359 := n4_; have NB357_359 := n5_; have NB359_357 := n6_; clear n0_ n1_ n2_ n3_ n4_ n5_ n6_; clear hb hbox hg; have hnb23 := NB359_357.out; have hnc23 := NB357_359.out; have hcz24_0 : w22.cell? ⟨gb359, 0, none⟩ = some (.int .u8 0) := (blk_cell BK359.out 0).trans rfl; have hcz24_1 : w22.cell? ⟨gb359, 1, none⟩ = some (.int .i64 0) := (blk_cell BK359.out 1).trans rfl; have hcz24_2 : w22.cell? ⟨gb359, 2, none⟩ = some (.string (⟨#[]⟩ : ByteArray)) := (blk_cell BK359.out 2).trans rfl; have hfz24_0 := blk_frozen BK359.out 0; have hfz24_1 := blk_frozen BK359.out 1; have hfz24_2 := blk_frozen BK359.out 2; have hcz25_0 : w22.cell? ⟨gb357, 0, none⟩ = some (.int .u8 ((rd_T24 l0 x13_1).f0)) := (blk_cell BK357.out 0).trans rfl; have hcz25_1 : w22.cell? ⟨gb357, 1, none⟩ = some (.int .i64 ((rd_T24 l0 x13_1).f1)) := (blk_cell BK357.out 1).trans rfl; have hcz25_2 : w22.cell? ⟨gb357, 2, none⟩ = some (.string ((rd_T24 l0 x13_1).f2)) := (blk_cell BK357.out 2).trans rfl; have hfz25_0 := blk_frozen BK357.out 0; have hfz25_1 := blk_frozen BK357.out 1; have hfz25_2 := blk_frozen BK357.out 2) | ((with_reducible refine gate_value (x := .tmp 26) rfl ?_); refine goesV_ (some 29) (.tmp 26) rfl rfl Tryz.func13 (by kernel_rfl) rfl #[.agg #[.int .u8 ((rd_T24 l0 x13_1).f0), .int .i64 ((rd_T24 l0 x13_1).f1), .string ((rd_T24 l0 x13_1).f2)], .agg #[.int .u8 ((rd_T24 l1 x13_1).f0), .int .i64 ((rd_T24 l1 x13_1).f1), .string ((rd_T24 l1 x13_1).f2)]] rfl (by (try simp only [List.map_toArray, List.map_cons, List.map_nil]); first | done | rfl | (simp only [List.length_drop, List.length_take]; rfl)) ?_; (with_reducible refine (value_Compare.calls k1 ((rd_T24 l0 x13_1).f0) ((rd_T24 l0 x13_1).f1) ((rd_T24 l0 x13_1).f2) ((rd_T24 l1 x13_1).f0) ((rd_T24 l1 x13_1).f1) ((rd_T24 l1 x13_1).f2) t360 _ A11.out).mono ?_); rintro e w26 ⟨rfl, hb⟩; refine ⟨_, rfl, ?_⟩; have n0_ := Aside0.mk (blk_below (g := gb357) (o := .cells #[.int .u8 ((rd_T24 l0 x13_1).f0), .int .i64 ((rd_T24 l0 x13_1).f1), .string ((rd_T24 l0 x13_1).f2)] 24 (0, 0)) (by (with_reducible repeat (first | refine blk_drewN ?_ _ | refine blk_drew ?_ | refine blk_alloc ?_ _)); refine blk_far ?_ NB357_359.out _; (with_reducible repeat (first | refine blk_drewN ?_ _ | refine blk_drew ?_ | refine blk_alloc ?_ _)); refine blk_far ?_ NB357_359.out _; (with_reducible repeat (first | refine blk_drewN ?_ _ | refine blk_drew ?_ | refine blk_alloc ?_ _)); refine blk_far ?_ NB357_359.out _; (with_reducible repeat (first | refine blk_drewN ?_ _ | refine blk_drew ?_ | refine blk_alloc ?_ _)); exact BK357.out) hb); have n1_ := Aside0.mk (blk_below (g := gb359) (o := .cells #[.int .u8 ((rd_T24 l1 x13_1).f0), .int .i64 ((rd_T24 l1 x13_1).f1), .string ((rd_T24 l1 x13_1).f2)] 24 (0, 0)) (by (with_reducible repeat (first | refine blk_drewN ?_ _ | refine blk_drew ?_ | refine blk_alloc ?_ _)); refine blk_put (cs := #[.int .u8 ((rd_T24 l1 x13_1).f0), .int .i64 ((rd_T24 l1 x13_1).f1), .string (⟨#[]⟩ : ByteArray)]) ?_ 2 _ rfl; (with_reducible repeat (first | refine blk_drewN ?_ _ | refine blk_drew ?_ | refine blk_alloc ?_ _)); refine blk_put (cs := #[.int .u8 ((rd_T24 l1 x13_1).f0), .int .i64 0, .string (⟨#[]⟩ : ByteArray)]) ?_ 1 _ rfl; (with_reducible repeat (first | refine blk_drewN ?_ _ | refine blk_drew ?_ | refine blk_alloc ?_ _)); refine blk_put (cs := #[.int .u8 0, .int .i64 0, .string (⟨#[]⟩ : ByteArray)]) ?_ 0 _ rfl; (with_reducible repeat (first | refine blk_drewN ?_ _ | refine blk_drew ?_ | refine blk_alloc ?_ _)); exact BK359.out) hb); have n2_ := Aside0.mk (below_step (by repeat (first | (with_reducible first | exact HB.out | apply below_alloc | apply pw_below_drewN | apply below_drew1 | refine below_set ?_ GE357.out | refine below_set ?_ GE359.out) | exact HB.out)) hb); clear BK357; clear BK359; clear HB; have BK357 := n0_; have BK359 := n1_; have HB := n2_; clear n0_ n1_ n2_; (try clear hb); (try clear hb2); (try clear hk); (try clear hi)))
                  go_ret
                  exact ⟨by first | rfl | (simp [errW_none, errW_some] <;> rfl) | (simp [*, errW_none, errW_some] <;> rfl), by repeat (first | (with_reducible first | exact HB.out | apply below_alloc | apply pw_below_drewN | apply below_drew1 | refine below_set ?_ GE357.out | refine below_set ?_ GE359.out) | exact HB.out)⟩
              · rw [if_neg c10] at H
                exact absurd H (by simp)
          · rw [if_neg c6] at H
            exact absurd H (by simp)
        · rw [if_neg c5] at H
          exact absurd H (by simp)
      · rw [if_neg c4] at H
        have c4b0 : decide (x13_1 < (l0.length : Int)) = false := decide_eq_false c4
        clear c4
        by_cases c27 : (l0.length : Int) < (l1.length : Int)
        · rw [if_pos c27] at H
          have c27b0 : decide ((l0.length : Int) < (l1.length : Int)) = true := decide_eq_true c27
          have c27b1 : decide (l0.length < l1.length) = true := decide_eq_true (Int.ofNat_lt.mp c27)
          clear c27
          obtain rfl := Option.some.inj H
          go_wp2
          go_ret
          exact ⟨by first | rfl | (simp [errW_none, errW_some] <;> rfl) | (simp [*, errW_none, errW_some] <;> rfl), by repeat (first | (with_reducible first | exact HB.out | apply below_alloc | apply pw_below_drewN | apply below_drew1) | exact HB.out)⟩
        · rw [if_neg c27] at H
          have c27b0 : decide ((l0.length : Int) < (l1.length : Int)) = false := decide_eq_false c27
          have c27b1 : decide (l0.length < l1.length) = false := decide_eq_false (fun h => c27 (Int.ofNat_lt.mpr h))
          clear c27
          obtain rfl := Option.some.inj H
          go_wp2
          go_ret
          exact ⟨by first | rfl | (simp [errW_none, errW_some] <;> rfl) | (simp [*, errW_none, errW_some] <;> rfl), by repeat (first | (with_reducible first | exact HB.out | apply below_alloc | apply pw_below_drewN | apply below_drew1) | exact HB.out)⟩

/-! ### GIVEN value_CompareRows: function 24 -/



/-! ### value_CompareRows: function 24 -/
def value_CompareRows.f (k : Nat) (l0 : List (S24)) (l1 : List (S24)) : Option (Int) := slices_CompareFunc.f k l0 l1
theorem value_CompareRows.mono : ∀ a0 a1 k, LeO (value_CompareRows.f k a0 a1) (value_CompareRows.f (k + 1) a0 a1) := slices_CompareFunc.mono
set_option maxHeartbeats 8000000 in
set_option maxRecDepth 100000 in
theorem value_CompareRows.calls (k : Nat) (A0 : Option Addr) (c0 : Nat) (l0 : List (S24)) (A1 : Option Addr) (c1 : Nat) (l1 : List (S24)) (r : Int) (w : World) (hr0 : Kd.C k24 w A0 l0.length l0) (hc0 : l0.length ≤ c0) (hr1 : Kd.C k24 w A1 l1.length l1) (hc1 : l1.length ≤ c1) (h : value_CompareRows.f k l0 l1 = some r) :
    Calls Tryz.prog 24 #[.slice A0 l0.length c0, .slice A1 l1.length c1] w fun e w' => e = .returned (.int .i64 r) ∧ Below w.heap.size w w' := by
  have H := Aside0.mk (slices_CompareFunc.calls k A0 c0 l0 A1 c1 l1 r w hr0 hc0 hr1 hc1 h)
  clear h hr0 hc0 hr1 hc1
  go_enter Tryz.func24, Tryz.ntmps24
  go_wp2_with (go_at_call 62; (with_reducible refine H.out.mono ?_); rintro e w' ⟨rfl, hb⟩)
  go_ret
  exact ⟨rfl, hb⟩

end Go.Proofs.YtafdoogghalpjaaGreatDoor.PAll
