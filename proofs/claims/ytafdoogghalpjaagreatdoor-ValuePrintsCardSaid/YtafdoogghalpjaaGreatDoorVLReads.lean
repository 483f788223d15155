import Derived.Test.YtafdoogghalpjaaGreatDoorVAwake
import Derived.Test.YtafdoogghalpjaaGreatDoorVFf
import Derived.Test.YtafdoogghalpjaaGreatDoorVFp
namespace Go.Proofs.YtafdoogghalpjaaGreatDoor.PAll
open Go.RowKit Go.Proofs.YtafdoogghalpjaaGreatDoorW.PrintWords Go.Proofs.YtafdoogghalpjaaGreatDoorW.PrintLast Go.Proofs.YtafdoogghalpjaaGreatDoorW.PrintMore
attribute [local go_sem] max2_int min2_int max_two min_two max_three min_three max_four min_four   -- for this text's walks alone
set_option linter.unusedVariables false
set_option linter.unusedSimpArgs false

attribute [local go_sem high] eqA24
/-! ### jointerlaw01_ValueReads: function 8 -/
def jointerlaw01_ValueReads.j0 : Nat → ByteArray → Int → Bool → Int → Int → ByteArray → Option (Bool)
  | 0, _, _, _, _, _, _ => none
  | k + 1, x0, x6, x27, x347000, x347001, x347002 => if x27 = true then (some false) else (if x6 = 0 then ((value_Print.f x347000 x347001 x347002).bind fun bt348 => (if bt348.2 = 0 then (if bt348.1.toList = x0.toList then ((jointerlaw01_awake.f k).bind fun t350 => (some t350)) else (some false)) else (some false))) else ((jointerlaw01_awake.f k).bind fun t351 => (some t351)))
def jointerlaw01_ValueReads.f (k : Nat) (a0 : ByteArray) : Option (Bool) := (jointerref01_Read.f k a0).bind fun bt337 => ((value_Read.f k a0).bind fun bt342 => (if bt342.2.2.2 = bt337.2.2.2 then ((jointerref01_Same.f bt342.1 bt342.2.1 bt342.2.2.1 bt337.1 bt337.2.1 bt337.2.2.1).bind fun t347 => (jointerlaw01_ValueReads.j0 k a0 bt342.2.2.2 (!t347) bt342.1 bt342.2.1 bt342.2.2.1)) else (jointerlaw01_ValueReads.j0 k a0 bt342.2.2.2 true bt342.1 bt342.2.1 bt342.2.2.1)))
theorem jointerlaw01_ValueReads.mono_l : ∀ k, (∀ y0 y1 y2 y3 y4 y5, LeO (jointerlaw01_ValueReads.j0 k y0 y1 y2 y3 y4 y5) (jointerlaw01_ValueReads.j0 (k + 1) y0 y1 y2 y3 y4 y5))
  | 0 => fun _ _ _ _ _ _ r h => by simp [jointerlaw01_ValueReads.j0] at h
  | k + 1 => by
    have ih0 := jointerlaw01_ValueReads.mono_l k
    · intro y0 y1 y2 y3 y4 y5
      unfold jointerlaw01_ValueReads.j0
      repeat' first
      | (with_reducible exact ih0 _ _ _ _ _ _)
      | (with_reducible exact jointerlaw01_awake.mono _)
      | (with_reducible exact jointerref01_Read.mono _ _)
      | (with_reducible exact value_Read.mono _ _)
      | (with_reducible exact LeO.refl _)
      | (with_reducible exact LeO.none _)
      | (with_reducible refine LeO.ite ?_ ?_)
      | (with_reducible refine LeO.bind ?_ (fun _ => ?_))
      | exact ih0 _ _ _ _ _ _
      | exact jointerlaw01_awake.mono _
      | exact jointerref01_Read.mono _ _
      | exact value_Read.mono _ _
      | exact LeO.none _
      | refine LeO.ite ?_ ?_
      | refine LeO.bind ?_ (fun _ => ?_)
theorem jointerlaw01_ValueReads.mono : ∀ a0 k, LeO (jointerlaw01_ValueReads.f k a0) (jointerlaw01_ValueReads.f (k + 1) a0) := by
  intro a0 k
  have ih0 := jointerlaw01_ValueReads.mono_l k
  unfold jointerlaw01_ValueReads.f
  repeat' first
      | (with_reducible exact ih0 _ _ _ _ _ _)
      | (with_reducible exact jointerlaw01_awake.mono _)
      | (with_reducible exact jointerref01_Read.mono _ _)
      | (with_reducible exact value_Read.mono _ _)
      | (with_reducible exact LeO.refl _)
      | (with_reducible exact LeO.none _)
      | (with_reducible refine LeO.ite ?_ ?_)
      | (with_reducible refine LeO.bind ?_ (fun _ => ?_))
      | exact ih0 _ _ _ _ _ _
      | exact jointerlaw01_awake.mono _
      | exact jointerref01_Read.mono _ _
      | exact value_Read.mono _ _
      | exact LeO.none _
      | refine LeO.ite ?_ ?_
      | refine LeO.bind ?_ (fun _ => ?_)
set_option maxHeartbeats 8000000 in
set_option maxRecDepth 100000 in
theorem jointerlaw01_ValueReads.calls (k : Nat) (a0 : ByteArray) (r : Bool) (w : World) (hr : r = true) (h : jointerlaw01_ValueReads.f k a0 = some r) (hL : LaidV w) :
    Calls Tryz.prog 8 #[.string a0] w fun e w' => e = .returned (.bool r) ∧ Below w.heap.size w w' := by
  have HR := Aside0.mk hr
  clear hr
  have HL := Aside0.mk hL
  clear hL
  have hu24 := Tryz.underlying24
  have HB := Aside0.mk (Below.refl w.heap.size w)
  have H : ((jointerref01_Read.f k a0).bind fun bt337 => ((value_Read.f k a0).bind fun bt342 => (if bt342.2.2.2 = bt337.2.2.2 then ((jointerref01_Same.f bt342.1 bt342.2.1 bt342.2.2.1 bt337.1 bt337.2.1 bt337.2.2.1).bind fun t347 => (jointerlaw01_ValueReads.j0 k a0 bt342.2.2.2 (!t347) bt342.1 bt342.2.1 bt342.2.2.1)) else (jointerlaw01_ValueReads.j0 k a0 bt342.2.2.2 true bt342.1 bt342.2.1 bt342.2.2.1)))) = some r := h
  clear h
  replace H := Option.bind_eq_some_iff.mp H
  obtain ⟨⟨t337, t338, t339, t340⟩, A20, H⟩ := H
  replace H : ((value_Read.f k a0).bind fun bt342 => (if bt342.2.2.2 = t340 then ((jointerref01_Same.f bt342.1 bt342.2.1 bt342.2.2.1 t337 t338 t339).bind fun t347 => (jointerlaw01_ValueReads.j0 k a0 bt342.2.2.2 (!t347) bt342.1 bt342.2.1 bt342.2.2.1)) else (jointerlaw01_ValueReads.j0 k a0 bt342.2.2.2 true bt342.1 bt342.2.1 bt342.2.2.1))) = some r := H
  have A2 := Aside0.mk A20
  clear A20
  replace H := Option.bind_eq_some_iff.mp H
  obtain ⟨⟨t342, t343, t344, t345⟩, A30, H⟩ := H
  replace H : (if t345 = t340 then ((jointerref01_Same.f t342 t343 t344 t337 t338 t339).bind fun t347 => (jointerlaw01_ValueReads.j0 k a0 t345 (!t347) t342 t343 t344)) else (jointerlaw01_ValueReads.j0 k a0 t345 true t342 t343 t344)) = some r := H
  have A3 := Aside0.mk A30
  clear A30
  have HC4 := Aside0.mk H
  clear H
  go_enter Tryz.func8, Tryz.ntmps8
  go_upto_region 3 with (first | ((with_reducible refine gate_callee (f := 22) rfl ?_); refine goesL_ (some 11) rfl rfl Tryz.func22 (by kernel_rfl) rfl #[.string a0] rfl (by (try simp only [List.map_toArray, List.map_cons, List.map_nil]); first | done | rfl | (simp only [List.length_drop, List.length_take]; rfl)) ?_; (with_reducible refine (jointerref01_Read.calls k a0 t337 t338 t339 t340 _ A2.out).mono ?_); rintro e w5 ⟨rfl, hb⟩; refine ⟨_, rfl, ?_⟩; have n0_ := Aside0.mk (below_step (by repeat (first | (with_reducible first | exact HB.out | apply below_alloc | apply pw_below_drewN | apply below_drew1) | exact HB.out)) hb); clear HB; have HB := n0_; clear n0_; (try clear hb); (try clear hb2); (try clear hk); (try clear hi)) | ((with_reducible refine gate_dst (N := 3) rfl ?_); refine box_event ?hg (N := 3) ?hd (cs := #[.int .u8 0, .int .i64 0, .string (⟨#[]⟩ : ByteArray)]) (t := 24) ?hr ?_; (case hd => rfl); (case hg => rfl); (case hr => first | (go_simp; done) | (go_simp; rfl)); intro gb341 hg w6 hbox hb; have n0_ := Aside0.mk (below_step (by repeat (first | (with_reducible first | exact HB.out | apply below_alloc | apply pw_below_drewN | apply below_drew1) | exact HB.out)) hb); have n1_ := Aside0.mk (hbox); have n2_ := Aside0.mk ((by rw [hg]; exact (below_size (by repeat (first | (with_reducible first | exact HB.out | apply below_alloc | apply pw_below_drewN | apply below_drew1) | exact HB.out))) : w.heap.size ≤ gb341)); have n3_ := Aside0.mk ((by rw [hg]; exact (below_size (by repeat (first | (with_reducible first | exact HB.out | apply below_alloc | apply pw_below_drewN | apply below_drew1) | exact HB.out))) : w.heap.size ≤ gb341)); clear HB; have HB := n0_; have BK341 := n1_; have GW341 := n2_; have GE341 := n3_; clear n0_ n1_ n2_ n3_; clear hb hbox hg; have hcz7_0 : w6.cell? ⟨gb341, 0, none⟩ = some (.int .u8 0) := (blk_cell BK341.out 0).trans rfl; have hcz7_1 : w6.cell? ⟨gb341, 1, none⟩ = some (.int .i64 0) := (blk_cell BK341.out 1).trans rfl; have hcz7_2 : w6.cell? ⟨gb341, 2, none⟩ = some (.string (⟨#[]⟩ : ByteArray)) := (blk_cell BK341.out 2).trans rfl; have hfz7_0 := blk_frozen BK341.out 0; have hfz7_1 := blk_frozen BK341.out 1; have hfz7_2 := blk_frozen BK341.out 2) | ((with_reducible refine gate_callee (f := 21) rfl ?_); refine goesL_ (some 16) rfl rfl Tryz.func21 (by kernel_rfl) rfl #[.string a0] rfl (by (try simp only [List.map_toArray, List.map_cons, List.map_nil]); first | done | rfl | (simp only [List.length_drop, List.length_take]; rfl)) ?_; (with_reducible refine (value_Read.calls k a0 t342 t343 t344 t345 _ A3.out (LaidV.below HL (by repeat (first | (with_reducible first | exact HB.out | apply below_alloc | apply pw_below_drewN | apply below_drew1 | refine below_set ?_ GE341.out) | exact HB.out)))).mono ?_); rintro e w8 ⟨rfl, hb⟩; refine ⟨_, rfl, ?_⟩; have n0_ := Aside0.mk (blk_below (g := gb341) (o := .cells #[.int .u8 t337, .int .i64 t338, .string t339] 24 (0, 0)) (by (with_reducible repeat (first | refine blk_drewN ?_ _ | refine blk_drew ?_ | refine blk_alloc ?_ _)); refine blk_put (cs := #[.int .u8 t337, .int .i64 t338, .string (⟨#[]⟩ : ByteArray)]) ?_ 2 _ rfl; (with_reducible repeat (first | refine blk_drewN ?_ _ | refine blk_drew ?_ | refine blk_alloc ?_ _)); refine blk_put (cs := #[.int .u8 t337, .int .i64 0, .string (⟨#[]⟩ : ByteArray)]) ?_ 1 _ rfl; (with_reducible repeat (first | refine blk_drewN ?_ _ | refine blk_drew ?_ | refine blk_alloc ?_ _)); refine blk_put (cs := #[.int .u8 0, .int .i64 0, .string (⟨#[]⟩ : ByteArray)]) ?_ 0 _ rfl; (with_reducible repeat (first | refine blk_drewN ?_ _ | refine blk_drew ?_ | refine blk_alloc ?_ _)); exact BK341.out) hb); have n1_ := Aside0.mk (below_step (by repeat (first | (with_reducible first | exact HB.out | apply below_alloc | apply pw_below_drewN | apply below_drew1 | refine below_set ?_ GE341.out) | exact HB.out)) hb); clear BK341; clear HB; have BK341 := n0_; have HB := n1_; clear n0_ n1_; (try clear hb); (try clear hb2); (try clear hk); (try clear hi)) | ((with_reducible refine gate_dst (N := 5) rfl ?_); refine box_event ?hg (N := 5) ?hd (cs := #[.int .u8 0, .int .i64 0, .string (⟨#[]⟩ : ByteArray)]) (t := 24) ?hr ?_; (case hd => rfl); (case hg => rfl); (case hr => first | (go_simp; done) | (go_simp; rfl)); intro gb346 hg w9 hbox hb; have n0_ := Aside0.mk (blk_below (g := gb341) (o := .cells #[.int .u8 t337, .int .i64 t338, .string t339] 24 (0, 0)) (by (with_reducible repeat (first | refine blk_drewN ?_ _ | refine blk_drew ?_ | refine blk_alloc ?_ _)); exact BK341.out) hb); have n1_ := Aside0.mk (below_step (by repeat (first | (with_reducible first | exact HB.out | apply below_alloc | apply pw_below_drewN | apply below_drew1 | refine below_set ?_ GE341.out) | exact HB.out)) hb); have n2_ := Aside0.mk (hbox); have n3_ := Aside0.mk ((by rw [hg]; exact (below_size (by repeat (first | (with_reducible first | exact HB.out | apply below_alloc | apply pw_below_drewN | apply below_drew1 | refine below_set ?_ GE341.out) | exact HB.out))) : w.heap.size ≤ gb346)); have n4_ := Aside0.mk ((by rw [hg]; exact (below_size (by repeat (first | (with_reducible first | exact HB.out | apply below_alloc | apply pw_below_drewN | apply below_drew1 | refine below_set ?_ GE341.out) | exact HB.out))) : w.heap.size ≤ gb346)); have n5_ := Aside0.mk ((by rw [hg]; exact Nat.ne_of_lt (blk_lt (g := gb341) (o := .cells #[.int .u8 t337, .int .i64 t338, .string t339] 24 (0, 0)) (by (with_reducible repeat (first | refine blk_drewN ?_ _ | refine blk_drew ?_ | refine blk_alloc ?_ _)); exact BK341.out)) : gb341 ≠ gb346)); have n6_ := Aside0.mk ((by rw [hg]; exact Nat.ne_of_gt (blk_lt (g := gb341) (o := .cells #[.int .u8 t337, .int .i64 t338, .string t339] 24 (0, 0)) (by (with_reducible repeat (first | refine blk_drewN ?_ _ | refine blk_drew ?_ | refine blk_alloc ?_ _)); exact BK341.out)) : gb346 ≠ gb341)); clear BK341; clear HB; have BK341 := n0_; have HB := n1_; have BK346 := n2_; have GW346 := n3_; have GE346 := n4_; have NB341_346 := n5_; have NB346_341 := n6_; clear n0_ n1_ n2_ n3_ n4_ n5_ n6_; clear hb hbox hg; have hnb10 := NB346_341.out; have hnc10 := NB341_346.out; have hcz11_0 : w9.cell? ⟨gb346, 0, none⟩ = some (.int .u8 0) := (blk_cell BK346.out 0).trans rfl; have hcz11_1 : w9.cell? ⟨gb346, 1, none⟩ = some (.int .i64 0) := (blk_cell BK346.out 1).trans rfl; have hcz11_2 : w9.cell? ⟨gb346, 2, none⟩ = some (.string (⟨#[]⟩ : ByteArray)) := (blk_cell BK346.out 2).trans rfl; have hfz11_0 := blk_frozen BK346.out 0; have hfz11_1 := blk_frozen BK346.out 1; have hfz11_2 := blk_frozen BK346.out 2))
  (try simp only [Act.put, List.setIfInBounds_toArray, List.set_cons_zero, List.set_cons_succ])
  go_cut [27] (fun v27 wc => ∃ (kq : Nat) (x27_3 : Bool), v27 = .bool x27_3 ∧ Aside0 (jointerlaw01_ValueReads.j0 kq a0 t345 x27_3 t342 t343 t344 = some r) ∧ Aside0 (kq ≤ k) ∧ Aside0 (wc.heap[gb341]? = some (.cells #[.int .u8 t337, .int .i64 t338, .string t339] 24 (0, 0))) ∧ Aside0 (wc.heap[gb346]? = some (.cells #[.int .u8 t342, .int .i64 t343, .string t344] 24 (0, 0))) ∧ Aside0 (Below w.heap.size w wc))
  case first =>
    have H := HC4.out
    clear HC4
    by_cases c12 : t345 = t340
    · rw [if_pos c12] at H
      have c12b0 : (t345 == t340) = true := beq_iff_eq.mpr c12
      have c12b1 : (t345 != t340) = false := bne_eq_false_iff_eq.mpr c12
      clear c12
      (first | rw [c12b0] | (simp only [i64_w, i32_w]; rw [c12b0]) | skip)
      replace H := Option.bind_eq_some_iff.mp H
      obtain ⟨t347, A130, H⟩ := H
      replace H : (jointerlaw01_ValueReads.j0 k a0 t345 (!t347) t342 t343 t344) = some r := H
      have A13 := Aside0.mk A130
      clear A130
      have H' := Aside0.mk H
      clear H
      have hnb14 := NB346_341.out
      have hnc14 := NB341_346.out
      have hcz15_0 : w9.cell? ⟨gb346, 0, none⟩ = some (.int .u8 0) := (blk_cell BK346.out 0).trans rfl
      have hcz15_1 : w9.cell? ⟨gb346, 1, none⟩ = some (.int .i64 0) := (blk_cell BK346.out 1).trans rfl
      have hcz15_2 : w9.cell? ⟨gb346, 2, none⟩ = some (.string (⟨#[]⟩ : ByteArray)) := (blk_cell BK346.out 2).trans rfl
      have hfz15_0 := blk_frozen BK346.out 0
      have hfz15_1 := blk_frozen BK346.out 1
      have hfz15_2 := blk_frozen BK346.out 2
      have hcz16_0 : w9.cell? ⟨gb341, 0, none⟩ = some (.int .u8 t337) := (blk_cell BK341.out 0).trans rfl
      have hcz16_1 : w9.cell? ⟨gb341, 1, none⟩ = some (.int .i64 t338) := (blk_cell BK341.out 1).trans rfl
      have hcz16_2 : w9.cell? ⟨gb341, 2, none⟩ = some (.string t339) := (blk_cell BK341.out 2).trans rfl
      have hfz16_0 := blk_frozen BK341.out 0
      have hfz16_1 := blk_frozen BK341.out 1
      have hfz16_2 := blk_frozen BK341.out 2
      go_wp2_with (first | (go_at_call 16; (with_reducible refine (jointerref01_Same.calls t342 t343 t344 t337 t338 t339 t347 _ A13.out).mono ?_); rintro e w17 ⟨rfl, hb⟩; have n0_ := Aside0.mk (blk_below (g := gb341) (o := .cells #[.int .u8 t337, .int .i64 t338, .string t339] 24 (0, 0)) (by (with_reducible repeat (first | refine blk_drewN ?_ _ | refine blk_drew ?_ | refine blk_alloc ?_ _)); refine blk_far ?_ NB341_346.out _; (with_reducible repeat (first | refine blk_drewN ?_ _ | refine blk_drew ?_ | refine blk_alloc ?_ _)); refine blk_far ?_ NB341_346.out _; (with_reducible repeat (first | refine blk_drewN ?_ _ | refine blk_drew ?_ | refine blk_alloc ?_ _)); refine blk_far ?_ NB341_346.out _; (with_reducible repeat (first | refine blk_drewN ?_ _ | refine blk_drew ?_ | refine blk_alloc ?_ _)); exact BK341.out) hb); have n1_ := Aside0.mk (blk_below (g := gb346) (o := .cells #[.int .u8 t342, .int .i64 t343, .string t344] 24 (0, 0)) (by (with_reducible repeat (first | refine blk_drewN ?_ _ | refine blk_drew ?_ | refine blk_alloc ?_ _)); refine blk_put (cs := #[.int .u8 t342, .int .i64 t343, .string (⟨#[]⟩ : ByteArray)]) ?_ 2 _ rfl; (with_reducible repeat (first | refine blk_drewN ?_ _ | refine blk_drew ?_ | refine blk_alloc ?_ _)); refine blk_put (cs := #[.int .u8 t342, .int .i64 0, .string (⟨#[]⟩ : ByteArray)]) ?_ 1 _ rfl; (with_reducible repeat (first | refine blk_drewN ?_ _ | refine blk_drew ?_ | refine blk_alloc ?_ _)); refine blk_put (cs := #[.int .u8 0, .int .i64 0, .string (⟨#[]⟩ : ByteArray)]) ?_ 0 _ rfl; (with_reducible repeat (first | refine blk_drewN ?_ _ | refine blk_drew ?_ | refine blk_alloc ?_ _)); exact BK346.out) hb); have n2_ := Aside0.mk (below_step (by repeat (first | (with_reducible first | exact HB.out | apply below_alloc | apply pw_below_drewN | apply below_drew1 | refine below_set ?_ GE341.out | refine below_set ?_ GE346.out) | exact HB.out)) hb); clear BK341; clear BK346; clear HB; have BK341 := n0_; have BK346 := n1_; have HB := n2_; clear n0_ n1_ n2_; (try clear hb); (try clear hb2); (try clear hk); (try clear hi)))
      go_meet
      case rel => exact ⟨_, (!t347), (by first | rfl | (simp; done) | (simp [*]; done)), H', ⟨by first | omega | exact Nat.le_refl _⟩, ⟨by (with_reducible repeat (first | refine blk_drewN ?_ _ | refine blk_drew ?_ | refine blk_alloc ?_ _)); exact BK341.out⟩, ⟨by (with_reducible repeat (first | refine blk_drewN ?_ _ | refine blk_drew ?_ | refine blk_alloc ?_ _)); exact BK346.out⟩, ⟨by repeat (first | (with_reducible first | exact HB.out | apply below_alloc | apply pw_below_drewN | apply below_drew1 | refine below_set ?_ GE341.out | refine below_set ?_ GE346.out) | exact HB.out)⟩⟩
    · rw [if_neg c12] at H
      have c12b0 : (t345 == t340) = false := beq_eq_false_iff_ne.mpr c12
      have c12b1 : (t345 != t340) = true := bne_iff_ne.mpr c12
      (first | rw [c12b0] | (simp only [i64_w, i32_w]; rw [c12b0]) | skip)
      have H' := Aside0.mk H
      clear H
      go_wp2
      go_meet
      case rel => exact ⟨_, (true), (by first | rfl | (simp; done) | (simp [*]; done)), H', ⟨by first | omega | exact Nat.le_refl _⟩, ⟨by (with_reducible repeat (first | refine blk_drewN ?_ _ | refine blk_drew ?_ | refine blk_alloc ?_ _)); refine blk_far ?_ NB341_346.out _; (with_reducible repeat (first | refine blk_drewN ?_ _ | refine blk_drew ?_ | refine blk_alloc ?_ _)); refine blk_far ?_ NB341_346.out _; (with_reducible repeat (first | refine blk_drewN ?_ _ | refine blk_drew ?_ | refine blk_alloc ?_ _)); refine blk_far ?_ NB341_346.out _; (with_reducible repeat (first | refine blk_drewN ?_ _ | refine blk_drew ?_ | refine blk_alloc ?_ _)); exact BK341.out⟩, ⟨by (with_reducible repeat (first | refine blk_drewN ?_ _ | refine blk_drew ?_ | refine blk_alloc ?_ _)); refine blk_put (cs := #[.int .u8 t342, .int .i64 t343, .string (⟨#[]⟩ : ByteArray)]) ?_ 2 _ rfl; (with_reducible repeat (first | refine blk_drewN ?_ _ | refine blk_drew ?_ | refine blk_alloc ?_ _)); refine blk_put (cs := #[.int .u8 t342, .int .i64 0, .string (⟨#[]⟩ : ByteArray)]) ?_ 1 _ rfl; (with_reducible repeat (first | refine blk_drewN ?_ _ | refine blk_drew ?_ | refine blk_alloc ?_ _)); refine blk_put (cs := #[.int .u8 0, .int .i64 0, .string (⟨#[]⟩ : ByteArray)]) ?_ 0 _ rfl; (with_reducible repeat (first | refine blk_drewN ?_ _ | refine blk_drew ?_ | refine blk_alloc ?_ _)); exact BK346.out⟩, ⟨by repeat (first | (with_reducible first | exact HB.out | apply below_alloc | apply pw_below_drewN | apply below_drew1 | refine below_set ?_ GE341.out | refine below_set ?_ GE346.out) | exact HB.out)⟩⟩
  case rest =>
    clear HC4
    try clear c1
    try clear c2
    try clear p2
    try clear c8
    try clear c10
    try clear c12
    try clear c12b0
    try clear c12b1
    try clear c14
    try clear hcz11_0
    try clear hcz11_1
    try clear hcz11_2
    try clear hcz15_0
    try clear hcz15_1
    try clear hcz15_2
    try clear hcz16_0
    try clear hcz16_1
    try clear hcz16_2
    try clear hcz7_0
    try clear hcz7_1
    try clear hcz7_2
    try clear hfz11_0
    try clear hfz11_1
    try clear hfz11_2
    try clear hfz15_0
    try clear hfz15_1
    try clear hfz15_2
    try clear hfz16_0
    try clear hfz16_1
    try clear hfz16_2
    try clear hfz7_0
    try clear hfz7_1
    try clear hfz7_2
    obtain ⟨kq, x27_3, rfl, HA, HJ3, BK341, BK346, HB⟩ := hcut
    cases kq with
    | zero => exact absurd HA.out (by simp [jointerlaw01_ValueReads.j0])
    | succ kj3 =>
      have H := HA.out
      clear HA
      simp only [jointerlaw01_ValueReads.j0] at H
      by_cases c18 : x27_3 = true
      · subst c18
        have H1 : (some false) = some r := by rw [if_pos rfl] at H; exact H
        clear H
        have H := H1
        clear H1
        obtain rfl := Option.some.inj H
        exact absurd HR.out (by decide) -- leaf 1
      · replace c18 := Bool.eq_false_iff.mpr c18
        subst c18
        have H1 : (if t345 = 0 then ((value_Print.f t342 t343 t344).bind fun bt348 => (if bt348.2 = 0 then (if bt348.1.toList = a0.toList then ((jointerlaw01_awake.f kj3).bind fun t350 => (some t350)) else (some false)) else (some false))) else ((jointerlaw01_awake.f kj3).bind fun t351 => (some t351))) = some r := by rw [if_neg (show ¬ (false = true) by decide)] at H; exact H
        clear H
        have H := H1
        clear H1
        by_cases c19 : t345 = 0
        · rw [if_pos c19] at H
          have c19b0 : (t345 == 0) = true := beq_iff_eq.mpr c19
          have c19b1 : (t345 != 0) = false := bne_eq_false_iff_eq.mpr c19
          clear c19
          replace H := Option.bind_eq_some_iff.mp H
          obtain ⟨⟨t348, t349⟩, A200, H⟩ := H
          replace H : (if t349 = 0 then (if t348.toList = a0.toList then ((jointerlaw01_awake.f kj3).bind fun t350 => (some t350)) else (some false)) else (some false)) = some r := H
          have A20 := Aside0.mk A200
          clear A200
          by_cases c21 : t349 = 0
          · rw [if_pos c21] at H
            have c21b0 : (t349 == 0) = true := beq_iff_eq.mpr c21
            have c21b1 : (t349 != 0) = false := bne_eq_false_iff_eq.mpr c21
            clear c21
            by_cases c22 : t348.toList = a0.toList
            · rw [if_pos c22] at H
              have c22b0 : (t348.toList == a0.toList) = true := beq_iff_eq.mpr c22
              have c22b1 : (t348.toList != a0.toList) = false := bne_eq_false_iff_eq.mpr c22
              clear c22
              replace H := Option.bind_eq_some_iff.mp H
              obtain ⟨t350, A230, H⟩ := H
              replace H : (some t350) = some r := H
              have A23 := Aside0.mk A230
              clear A230
              obtain rfl := Option.some.inj H
              have hnb24 := NB346_341.out
              have hnc24 := NB341_346.out
              have hcz25_0 : wc.cell? ⟨gb346, 0, none⟩ = some (.int .u8 t342) := (blk_cell BK346.out 0).trans rfl
              have hcz25_1 : wc.cell? ⟨gb346, 1, none⟩ = some (.int .i64 t343) := (blk_cell BK346.out 1).trans rfl
              have hcz25_2 : wc.cell? ⟨gb346, 2, none⟩ = some (.string t344) := (blk_cell BK346.out 2).trans rfl
              have hfz25_0 := blk_frozen BK346.out 0
              have hfz25_1 := blk_frozen BK346.out 1
              have hfz25_2 := blk_frozen BK346.out 2
              go_wp2_with (first | ((with_reducible refine gate_callee (f := 20) rfl ?_); refine goesL_ (some 33) rfl rfl Tryz.func20 (by kernel_rfl) rfl #[.agg #[.int .u8 t342, .int .i64 t343, .string t344]] rfl (by (try simp only [List.map_toArray, List.map_cons, List.map_nil]); first | done | rfl | (simp only [List.length_drop, List.length_take]; rfl)) ?_; (with_reducible refine (value_Print.calls t342 t343 t344 t348 t349 _ A20.out (LaidV.below HL (by repeat (first | (with_reducible first | exact HB.out | apply below_alloc | apply pw_below_drewN | apply below_drew1 | refine below_set ?_ GE341.out | refine below_set ?_ GE346.out) | exact HB.out)))).mono ?_); rintro e w26 ⟨rfl, hb⟩; refine ⟨_, rfl, ?_⟩; have n0_ := Aside0.mk (blk_below (g := gb341) (o := .cells #[.int .u8 t337, .int .i64 t338, .string t339] 24 (0, 0)) (by (with_reducible repeat (first | refine blk_drewN ?_ _ | refine blk_drew ?_ | refine blk_alloc ?_ _)); exact BK341.out) hb); have n1_ := Aside0.mk (blk_below (g := gb346) (o := .cells #[.int .u8 t342, .int .i64 t343, .string t344] 24 (0, 0)) (by (with_reducible repeat (first | refine blk_drewN ?_ _ | refine blk_drew ?_ | refine blk_alloc ?_ _)); exact BK346.out) hb); have n2_ := Aside0.mk (below_step (by repeat (first | (with_reducible first | exact HB.out | apply below_alloc | apply pw_below_drewN | apply below_drew1 | refine below_set ?_ GE341.out | refine below_set ?_ GE346.out) | exact HB.out)) hb); clear BK341; clear BK346; clear HB; have BK341 := n0_; have BK346 := n1_; have HB := n2_; clear n0_ n1_ n2_; (try clear hb); (try clear hb2); (try clear hk); (try clear hi)) | (go_at_call 14; (with_reducible refine (jointerlaw01_awake.calls kj3  t350 _ A23.out (LaidV.below HL (by repeat (first | (with_reducible first | exact HB.out | apply below_alloc | apply pw_below_drewN | apply below_drew1 | refine below_set ?_ GE341.out | refine below_set ?_ GE346.out) | exact HB.out)))).mono ?_); rintro e w27 ⟨rfl, hb⟩; have n0_ := Aside0.mk (blk_below (g := gb341) (o := .cells #[.int .u8 t337, .int .i64 t338, .string t339] 24 (0, 0)) (by (with_reducible repeat (first | refine blk_drewN ?_ _ | refine blk_drew ?_ | refine blk_alloc ?_ _)); exact BK341.out) hb); have n1_ := Aside0.mk (blk_below (g := gb346) (o := .cells #[.int .u8 t342, .int .i64 t343, .string t344] 24 (0, 0)) (by (with_reducible repeat (first | refine blk_drewN ?_ _ | refine blk_drew ?_ | refine blk_alloc ?_ _)); exact BK346.out) hb); have n2_ := Aside0.mk (below_step (by repeat (first | (with_reducible first | exact HB.out | apply below_alloc | apply pw_below_drewN | apply below_drew1 | refine below_set ?_ GE341.out | refine below_set ?_ GE346.out) | exact HB.out)) hb); clear BK341; clear BK346; clear HB; have BK341 := n0_; have BK346 := n1_; have HB := n2_; clear n0_ n1_ n2_; (try clear hb); (try clear hb2); (try clear hk); (try clear hi)))
              go_ret
              exact ⟨by first | rfl | (simp [errW_none, errW_some] <;> rfl) | (simp [*, errW_none, errW_some] <;> rfl), by repeat (first | (with_reducible first | exact HB.out | apply below_alloc | apply pw_below_drewN | apply below_drew1 | refine below_set ?_ GE341.out | refine below_set ?_ GE346.out) | exact HB.out)⟩
            · rw [if_neg c22] at H
              have c22b0 : (t348.toList == a0.toList) = false := beq_eq_false_iff_ne.mpr c22
              have c22b1 : (t348.toList != a0.toList) = true := bne_iff_ne.mpr c22
              obtain rfl := Option.some.inj H
              exact absurd HR.out (by decide) -- leaf 3
          · rw [if_neg c21] at H
            have c21b0 : (t349 == 0) = false := beq_eq_false_iff_ne.mpr c21
            have c21b1 : (t349 != 0) = true := bne_iff_ne.mpr c21
            obtain rfl := Option.some.inj H
            exact absurd HR.out (by decide) -- leaf 4
        · rw [if_neg c19] at H
          have c19b0 : (t345 == 0) = false := beq_eq_false_iff_ne.mpr c19
          have c19b1 : (t345 != 0) = true := bne_iff_ne.mpr c19
          replace H := Option.bind_eq_some_iff.mp H
          obtain ⟨t351, A340, H⟩ := H
          replace H : (some t351) = some r := H
          have A34 := Aside0.mk A340
          clear A340
          obtain rfl := Option.some.inj H
          go_wp2_with (first | ((with_reducible refine gate_callee (f := 14) rfl ?_); refine goesL_ (some 30) rfl rfl Tryz.func14 (by kernel_rfl) rfl #[] rfl (by (try simp only [List.map_toArray, List.map_cons, List.map_nil]); first | done | rfl | (simp only [List.length_drop, List.length_take]; rfl)) ?_; (with_reducible refine (jointerlaw01_awake.calls kj3  t351 _ A34.out (LaidV.below HL (by repeat (first | (with_reducible first | exact HB.out | apply below_alloc | apply pw_below_drewN | apply below_drew1 | refine below_set ?_ GE341.out | refine below_set ?_ GE346.out) | exact HB.out)))).mono ?_); rintro e w35 ⟨rfl, hb⟩; refine ⟨_, rfl, ?_⟩; have n0_ := Aside0.mk (blk_below (g := gb341) (o := .cells #[.int .u8 t337, .int .i64 t338, .string t339] 24 (0, 0)) (by (with_reducible repeat (first | refine blk_drewN ?_ _ | refine blk_drew ?_ | refine blk_alloc ?_ _)); exact BK341.out) hb); have n1_ := Aside0.mk (blk_below (g := gb346) (o := .cells #[.int .u8 t342, .int .i64 t343, .string t344] 24 (0, 0)) (by (with_reducible repeat (first | refine blk_drewN ?_ _ | refine blk_drew ?_ | refine blk_alloc ?_ _)); exact BK346.out) hb); have n2_ := Aside0.mk (below_step (by repeat (first | (with_reducible first | exact HB.out | apply below_alloc | apply pw_below_drewN | apply below_drew1 | refine below_set ?_ GE341.out | refine below_set ?_ GE346.out) | exact HB.out)) hb); clear BK341; clear BK346; clear HB; have BK341 := n0_; have BK346 := n1_; have HB := n2_; clear n0_ n1_ n2_; (try clear hb); (try clear hb2); (try clear hk); (try clear hi)))
          go_ret
          exact ⟨by first | rfl | (simp [errW_none, errW_some] <;> rfl) | (simp [*, errW_none, errW_some] <;> rfl), by repeat (first | (with_reducible first | exact HB.out | apply below_alloc | apply pw_below_drewN | apply below_drew1 | refine below_set ?_ GE341.out | refine below_set ?_ GE346.out) | exact HB.out)⟩

/-- THE ONE PURE STATEMENT of jointerlaw01_ValueReads: yours. -/
def jointerlaw01_ValueReads.Pure : Prop := ∀ (a0 : ByteArray), a0.size ≤ 140737488351232 → ∃ k, jointerlaw01_ValueReads.f k a0 = some true
theorem jointerlaw01_ValueReads.walk (P : jointerlaw01_ValueReads.Pure) (a0 : ByteArray) (w : World) (w0 : a0.size ≤ 140737488351232) (hL : LaidV w) :
    Calls Tryz.prog 8 #[.string a0] w fun e w' => e = .returned (.bool true) ∧ Below w.heap.size w w' := by
  obtain ⟨k, h⟩ := P a0 w0
  refine (jointerlaw01_ValueReads.calls k a0 true w rfl h hL).mono ?_
  rintro e w' ⟨rfl, hd⟩
  exact ⟨rfl, hd⟩

end Go.Proofs.YtafdoogghalpjaaGreatDoor.PAll
