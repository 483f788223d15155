import Derived.Test.YthgfdnffnbclpaaGreatDoorSQM08
import Derived.Test.YthgfdnffnbclpaaGreatDoorSQM05
import Derived.Test.YthgfdnffnbclpaaGreatDoorSQM09
set_option linter.unusedVariables false
set_option linter.unusedSimpArgs false
namespace Go.Proofs.YthgfdnffnbclpaaGreatDoor.PAll
open Go.RowKit Go.Proofs.YthgfdnffnbclpaaGreatDoorW.PrintWords Go.Proofs.YthgfdnffnbclpaaGreatDoorW.PrintLast Go.Proofs.YthgfdnffnbclpaaGreatDoorW.PrintMore
attribute [local go_sem] max2_int min2_int max_two min_two max_three min_three max_four min_four   -- for this text's walks alone

attribute [local go_sem high] eqA64
/-! ### jointerref01_Valid: function 65 -/
/-! ### jointerref07_InRange: function 66 -/
/-! ### jointerref07_Fits: function 42 -/
/-! ### jointerref01_Same: function 76 -/
def jointerref01_Same.f (a0_0 : Int) (a0_1 : Int) (a0_2 : ByteArray) (a1_0 : Int) (a1_1 : Int) (a1_2 : ByteArray) : Option (Bool) := if a0_0 = a1_0 then (if a0_1 = a1_1 then (some (a0_2.toList == a1_2.toList)) else (some false)) else (some false)
set_option maxHeartbeats 8000000 in
set_option maxRecDepth 100000 in
theorem jointerref01_Same.calls (a0_0 : Int) (a0_1 : Int) (a0_2 : ByteArray) (a1_0 : Int) (a1_1 : Int) (a1_2 : ByteArray) (r : Bool) (w : World) (h : jointerref01_Same.f a0_0 a0_1 a0_2 a1_0 a1_1 a1_2 = some r) :
    Calls Tryz.prog 126 #[.agg #[.int .u8 a0_0, .int .i64 a0_1, .string a0_2], .agg #[.int .u8 a1_0, .int .i64 a1_1, .string a1_2]] w fun e w' => e = .returned (.bool r) ∧ Below w.heap.size w w' := by
  have hu64 := Tryz.underlying87
  have HB := Aside0.mk (Below.refl w.heap.size w)
  have H : (if a0_0 = a1_0 then (if a0_1 = a1_1 then (some (a0_2.toList == a1_2.toList)) else (some false)) else (some false)) = some r := h
  clear h
  by_cases c3 : a0_0 = a1_0
  · rw [if_pos c3] at H
    have c3b0 : (a0_0 == a1_0) = true := beq_iff_eq.mpr c3
    have c3b1 : (a0_0 != a1_0) = false := bne_eq_false_iff_eq.mpr c3
    clear c3
    by_cases c4 : a0_1 = a1_1
    · rw [if_pos c4] at H
      have c4b0 : (a0_1 == a1_1) = true := beq_iff_eq.mpr c4
      have c4b1 : (a0_1 != a1_1) = false := bne_eq_false_iff_eq.mpr c4
      clear c4
      obtain rfl := Option.some.inj H
      go_enter Tryz.func126, Tryz.ntmps126
      go_wp2_with (first | ((with_reducible refine gate_dst (N := 2) rfl ?_); refine box_event ?hg (N := 2) ?hd (cs := #[.int .u8 a0_0, .int .i64 a0_1, .string a0_2]) (t := 87) ?hr ?_; (case hd => rfl); (case hg => rfl); (case hr => first | (go_simp; done) | (go_simp; rfl)); intro gb181 hg w5 hbox hb; have n0_ := Aside0.mk (below_step (by repeat (first | (with_reducible first | exact HB.out | apply below_alloc | apply pw_below_drewN | apply below_drew1) | exact HB.out)) hb); have n1_ := Aside0.mk (hbox); have n2_ := Aside0.mk ((by rw [hg]; exact (below_size (by repeat (first | (with_reducible first | exact HB.out | apply below_alloc | apply pw_below_drewN | apply below_drew1) | exact HB.out))) : w.heap.size ≤ gb181)); have n3_ := Aside0.mk ((by rw [hg]; exact (below_size (by repeat (first | (with_reducible first | exact HB.out | apply below_alloc | apply pw_below_drewN | apply below_drew1) | exact HB.out))) : w.heap.size ≤ gb181)); clear HB; have HB := n0_; have BK181 := n1_; have GW181 := n2_; have GE181 := n3_; clear n0_ n1_ n2_ n3_; clear hb hbox hg) | ((with_reducible refine gate_dst (N := 3) rfl ?_); refine box_event ?hg (N := 3) ?hd (cs := #[.int .u8 a1_0, .int .i64 a1_1, .string a1_2]) (t := 87) ?hr ?_; (case hd => rfl); (case hg => rfl); (case hr => first | (go_simp; done) | (go_simp; rfl)); intro gb182 hg w6 hbox hb; have n0_ := Aside0.mk (blk_below (g := gb181) (o := .cells #[.int .u8 a0_0, .int .i64 a0_1, .string a0_2] 87 (0, 0)) (by (with_reducible repeat (first | refine blk_drewN ?_ _ | refine blk_drew ?_ | refine blk_alloc ?_ _)); exact BK181.out) hb); have n1_ := Aside0.mk (below_step (by repeat (first | (with_reducible first | exact HB.out | apply below_alloc | apply pw_below_drewN | apply below_drew1 | refine below_set ?_ GE181.out) | exact HB.out)) hb); have n2_ := Aside0.mk (hbox); have n3_ := Aside0.mk ((by rw [hg]; exact (below_size (by repeat (first | (with_reducible first | exact HB.out | apply below_alloc | apply pw_below_drewN | apply below_drew1 | refine below_set ?_ GE181.out) | exact HB.out))) : w.heap.size ≤ gb182)); have n4_ := Aside0.mk ((by rw [hg]; exact (below_size (by repeat (first | (with_reducible first | exact HB.out | apply below_alloc | apply pw_below_drewN | apply below_drew1 | refine below_set ?_ GE181.out) | exact HB.out))) : w.heap.size ≤ gb182)); have n5_ := Aside0.mk ((by rw [hg]; exact Nat.ne_of_lt (blk_lt (g := gb181) (o := .cells #[.int .u8 a0_0, .int .i64 a0_1, .string a0_2] 87 (0, 0)) (by (with_reducible repeat (first | refine blk_drewN ?_ _ | refine blk_drew ?_ | refine blk_alloc ?_ _)); exact BK181.out)) : gb181 ≠ gb182)); have n6_ := Aside0.mk ((by rw [hg]; exact Nat.ne_of_gt (blk_lt (g := gb181) (o := .cells #[.int .u8 a0_0, .int .i64 a0_1, .string a0_2] 87 (0, 0)) (by (with_reducible repeat (first | refine blk_drewN ?_ _ | refine blk_drew ?_ | refine blk_alloc ?_ _)); exact BK181.out)) : gb182 ≠ gb181)); clear BK181; clear HB; have BK181 := n0_; have HB := n1_; have BK182 := n2_; have GW182 := n3_; have GE182 := n4_; have NB181_182 := n5_; have NB182_181 := n6_; clear n0_ n1_ n2_ n3_ n4_ n5_ n6_; clear hb hbox hg; have hnb7 := NB181_182.out; have hnc7 := NB182_181.out; have hcz8_0 : w6.cell? ⟨gb181, 0, none⟩ = some (.int .u8 a0_0) := (blk_cell BK181.out 0).trans rfl; have hcz8_1 : w6.cell? ⟨gb181, 1, none⟩ = some (.int .i64 a0_1) := (blk_cell BK181.out 1).trans rfl; have hcz8_2 : w6.cell? ⟨gb181, 2, none⟩ = some (.string a0_2) := (blk_cell BK181.out 2).trans rfl; have hfz8_0 := blk_frozen BK181.out 0; have hfz8_1 := blk_frozen BK181.out 1; have hfz8_2 := blk_frozen BK181.out 2; have hcz9_0 : w6.cell? ⟨gb182, 0, none⟩ = some (.int .u8 a1_0) := (blk_cell BK182.out 0).trans rfl; have hcz9_1 : w6.cell? ⟨gb182, 1, none⟩ = some (.int .i64 a1_1) := (blk_cell BK182.out 1).trans rfl; have hcz9_2 : w6.cell? ⟨gb182, 2, none⟩ = some (.string a1_2) := (blk_cell BK182.out 2).trans rfl; have hfz9_0 := blk_frozen BK182.out 0; have hfz9_1 := blk_frozen BK182.out 1; have hfz9_2 := blk_frozen BK182.out 2))
      go_ret
      exact ⟨by first | rfl | (simp [errW_none, errW_some] <;> rfl) | (simp [*, errW_none, errW_some] <;> rfl), by repeat (first | (with_reducible first | exact HB.out | apply below_alloc | apply pw_below_drewN | apply below_drew1 | refine below_set ?_ GE181.out | refine below_set ?_ GE182.out) | exact HB.out)⟩
    · rw [if_neg c4] at H
      have c4b0 : (a0_1 == a1_1) = false := beq_eq_false_iff_ne.mpr c4
      have c4b1 : (a0_1 != a1_1) = true := bne_iff_ne.mpr c4
      obtain rfl := Option.some.inj H
      go_enter Tryz.func126, Tryz.ntmps126
      go_wp2_with (first | ((with_reducible refine gate_dst (N := 2) rfl ?_); refine box_event ?hg (N := 2) ?hd (cs := #[.int .u8 a0_0, .int .i64 a0_1, .string a0_2]) (t := 87) ?hr ?_; (case hd => rfl); (case hg => rfl); (case hr => first | (go_simp; done) | (go_simp; rfl)); intro gb181 hg w10 hbox hb; have n0_ := Aside0.mk (below_step (by repeat (first | (with_reducible first | exact HB.out | apply below_alloc | apply pw_below_drewN | apply below_drew1) | exact HB.out)) hb); have n1_ := Aside0.mk (hbox); have n2_ := Aside0.mk ((by rw [hg]; exact (below_size (by repeat (first | (with_reducible first | exact HB.out | apply below_alloc | apply pw_below_drewN | apply below_drew1) | exact HB.out))) : w.heap.size ≤ gb181)); have n3_ := Aside0.mk ((by rw [hg]; exact (below_size (by repeat (first | (with_reducible first | exact HB.out | apply below_alloc | apply pw_below_drewN | apply below_drew1) | exact HB.out))) : w.heap.size ≤ gb181)); clear HB; have HB := n0_; have BK181 := n1_; have GW181 := n2_; have GE181 := n3_; clear n0_ n1_ n2_ n3_; clear hb hbox hg) | ((with_reducible refine gate_dst (N := 3) rfl ?_); refine box_event ?hg (N := 3) ?hd (cs := #[.int .u8 a1_0, .int .i64 a1_1, .string a1_2]) (t := 87) ?hr ?_; (case hd => rfl); (case hg => rfl); (case hr => first | (go_simp; done) | (go_simp; rfl)); intro gb182 hg w11 hbox hb; have n0_ := Aside0.mk (blk_below (g := gb181) (o := .cells #[.int .u8 a0_0, .int .i64 a0_1, .string a0_2] 87 (0, 0)) (by (with_reducible repeat (first | refine blk_drewN ?_ _ | refine blk_drew ?_ | refine blk_alloc ?_ _)); exact BK181.out) hb); have n1_ := Aside0.mk (below_step (by repeat (first | (with_reducible first | exact HB.out | apply below_alloc | apply pw_below_drewN | apply below_drew1 | refine below_set ?_ GE181.out) | exact HB.out)) hb); have n2_ := Aside0.mk (hbox); have n3_ := Aside0.mk ((by rw [hg]; exact (below_size (by repeat (first | (with_reducible first | exact HB.out | apply below_alloc | apply pw_below_drewN | apply below_drew1 | refine below_set ?_ GE181.out) | exact HB.out))) : w.heap.size ≤ gb182)); have n4_ := Aside0.mk ((by rw [hg]; exact (below_size (by repeat (first | (with_reducible first | exact HB.out | apply below_alloc | apply pw_below_drewN | apply below_drew1 | refine below_set ?_ GE181.out) | exact HB.out))) : w.heap.size ≤ gb182)); have n5_ := Aside0.mk ((by rw [hg]; exact Nat.ne_of_lt (blk_lt (g := gb181) (o := .cells #[.int .u8 a0_0, .int .i64 a0_1, .string a0_2] 87 (0, 0)) (by (with_reducible repeat (first | refine blk_drewN ?_ _ | refine blk_drew ?_ | refine blk_alloc ?_ _)); exact BK181.out)) : gb181 ≠ gb182)); have n6_ := Aside0.mk ((by rw [hg]; exact Nat.ne_of_gt (blk_lt (g := gb181) (o := .cells #[.int .u8 a0_0, .int .i64 a0_1, .string a0_2] 87 (0, 0)) (by (with_reducible repeat (first | refine blk_drewN ?_ _ | refine blk_drew ?_ | refine blk_alloc ?_ _)); exact BK181.out)) : gb182 ≠ gb181)); clear BK181; clear HB; have BK181 := n0_; have HB := n1_; have BK182 := n2_; have GW182 := n3_; have GE182 := n4_; have NB181_182 := n5_; have NB182_181 := n6_; clear n0_ n1_ n2_ n3_ n4_ n5_ n6_; clear hb hbox hg; have hnb12 := NB181_182.out; have hnc12 := NB182_181.out; have hcz13_0 : w11.cell? ⟨gb181, 0, none⟩ = some (.int .u8 a0_0) := (blk_cell BK181.out 0).trans rfl; have hcz13_1 : w11.cell? ⟨gb181, 1, none⟩ = some (.int .i64 a0_1) := (blk_cell BK181.out 1).trans rfl; have hcz13_2 : w11.cell? ⟨gb181, 2, none⟩ = some (.string a0_2) := (blk_cell BK181.out 2).trans rfl; have hfz13_0 := blk_frozen BK181.out 0; have hfz13_1 := blk_frozen BK181.out 1; have hfz13_2 := blk_frozen BK181.out 2; have hcz14_0 : w11.cell? ⟨gb182, 0, none⟩ = some (.int .u8 a1_0) := (blk_cell BK182.out 0).trans rfl; have hcz14_1 : w11.cell? ⟨gb182, 1, none⟩ = some (.int .i64 a1_1) := (blk_cell BK182.out 1).trans rfl; have hcz14_2 : w11.cell? ⟨gb182, 2, none⟩ = some (.string a1_2) := (blk_cell BK182.out 2).trans rfl; have hfz14_0 := blk_frozen BK182.out 0; have hfz14_1 := blk_frozen BK182.out 1; have hfz14_2 := blk_frozen BK182.out 2))
      go_ret
      exact ⟨by first | rfl | (simp [errW_none, errW_some] <;> rfl) | (simp [*, errW_none, errW_some] <;> rfl), by repeat (first | (with_reducible first | exact HB.out | apply below_alloc | apply pw_below_drewN | apply below_drew1 | refine below_set ?_ GE181.out | refine below_set ?_ GE182.out) | exact HB.out)⟩
  · rw [if_neg c3] at H
    have c3b0 : (a0_0 == a1_0) = false := beq_eq_false_iff_ne.mpr c3
    have c3b1 : (a0_0 != a1_0) = true := bne_iff_ne.mpr c3
    obtain rfl := Option.some.inj H
    go_enter Tryz.func126, Tryz.ntmps126
    go_wp2_with (first | ((with_reducible refine gate_dst (N := 2) rfl ?_); refine box_event ?hg (N := 2) ?hd (cs := #[.int .u8 a0_0, .int .i64 a0_1, .string a0_2]) (t := 87) ?hr ?_; (case hd => rfl); (case hg => rfl); (case hr => first | (go_simp; done) | (go_simp; rfl)); intro gb181 hg w15 hbox hb; have n0_ := Aside0.mk (below_step (by repeat (first | (with_reducible first | exact HB.out | apply below_alloc | apply pw_below_drewN | apply below_drew1) | exact HB.out)) hb); have n1_ := Aside0.mk (hbox); have n2_ := Aside0.mk ((by rw [hg]; exact (below_size (by repeat (first | (with_reducible first | exact HB.out | apply below_alloc | apply pw_below_drewN | apply below_drew1) | exact HB.out))) : w.heap.size ≤ gb181)); have n3_ := Aside0.mk ((by rw [hg]; exact (below_size (by repeat (first | (with_reducible first | exact HB.out | apply below_alloc | apply pw_below_drewN | apply below_drew1) | exact HB.out))) : w.heap.size ≤ gb181)); clear HB; have HB := n0_; have BK181 := n1_; have GW181 := n2_; have GE181 := n3_; clear n0_ n1_ n2_ n3_; clear hb hbox hg) | ((with_reducible refine gate_dst (N := 3) rfl ?_); refine box_event ?hg (N := 3) ?hd (cs := #[.int .u8 a1_0, .int .i64 a1_1, .string a1_2]) (t := 87) ?hr ?_; (case hd => rfl); (case hg => rfl); (case hr => first | (go_simp; done) | (go_simp; rfl)); intro gb182 hg w16 hbox hb; have n0_ := Aside0.mk (blk_below (g := gb181) (o := .cells #[.int .u8 a0_0, .int .i64 a0_1, .string a0_2] 87 (0, 0)) (by (with_reducible repeat (first | refine blk_drewN ?_ _ | refine blk_drew ?_ | refine blk_alloc ?_ _)); exact BK181.out) hb); have n1_ := Aside0.mk (below_step (by repeat (first | (with_reducible first | exact HB.out | apply below_alloc | apply pw_below_drewN | apply below_drew1 | refine below_set ?_ GE181.out) | exact HB.out)) hb); have n2_ := Aside0.mk (hbox); have n3_ := Aside0.mk ((by rw [hg]; exact (below_size (by repeat (first | (with_reducible first | exact HB.out | apply below_alloc | apply pw_below_drewN | apply below_drew1 | refine below_set ?_ GE181.out) | exact HB.out))) : w.heap.size ≤ gb182)); have n4_ := Aside0.mk ((by rw [hg]; exact (below_size (by repeat (first | (with_reducible first | exact HB.out | apply below_alloc | apply pw_below_drewN | apply below_drew1 | refine below_set ?_ GE181.out) | exact HB.out))) : w.heap.size ≤ gb182)); have n5_ := Aside0.mk ((by rw [hg]; exact Nat.ne_of_lt (blk_lt (g := gb181) (o := .cells #[.int .u8 a0_0, .int .i64 a0_1, .string a0_2] 87 (0, 0)) (by (with_reducible repeat (first | refine blk_drewN ?_ _ | refine blk_drew ?_ | refine blk_alloc ?_ _)); exact BK181.out)) : gb181 ≠ gb182)); have n6_ := Aside0.mk ((by rw [hg]; exact Nat.ne_of_gt (blk_lt (g := gb181) (o := .cells #[.int .u8 a0_0, .int .i64 a0_1, .string a0_2] 87 (0, 0)) (by (with_reducible repeat (first | refine blk_drewN ?_ _ | refine blk_drew ?_ | refine blk_alloc ?_ _)); exact BK181.out)) : gb182 ≠ gb181)); clear BK181; clear HB; have BK181 := n0_; have HB := n1_; have BK182 := n2_; have GW182 := n3_; have GE182 := n4_; have NB181_182 := n5_; have NB182_181 := n6_; clear n0_ n1_ n2_ n3_ n4_ n5_ n6_; clear hb hbox hg; have hnb17 := NB181_182.out; have hnc17 := NB182_181.out; have hcz18_0 : w16.cell? ⟨gb181, 0, none⟩ = some (.int .u8 a0_0) := (blk_cell BK181.out 0).trans rfl; have hcz18_1 : w16.cell? ⟨gb181, 1, none⟩ = some (.int .i64 a0_1) := (blk_cell BK181.out 1).trans rfl; have hcz18_2 : w16.cell? ⟨gb181, 2, none⟩ = some (.string a0_2) := (blk_cell BK181.out 2).trans rfl; have hfz18_0 := blk_frozen BK181.out 0; have hfz18_1 := blk_frozen BK181.out 1; have hfz18_2 := blk_frozen BK181.out 2; have hcz19_0 : w16.cell? ⟨gb182, 0, none⟩ = some (.int .u8 a1_0) := (blk_cell BK182.out 0).trans rfl; have hcz19_1 : w16.cell? ⟨gb182, 1, none⟩ = some (.int .i64 a1_1) := (blk_cell BK182.out 1).trans rfl; have hcz19_2 : w16.cell? ⟨gb182, 2, none⟩ = some (.string a1_2) := (blk_cell BK182.out 2).trans rfl; have hfz19_0 := blk_frozen BK182.out 0; have hfz19_1 := blk_frozen BK182.out 1; have hfz19_2 := blk_frozen BK182.out 2))
    go_ret
    exact ⟨by first | rfl | (simp [errW_none, errW_some] <;> rfl) | (simp [*, errW_none, errW_some] <;> rfl), by repeat (first | (with_reducible first | exact HB.out | apply below_alloc | apply pw_below_drewN | apply below_drew1 | refine below_set ?_ GE181.out | refine below_set ?_ GE182.out) | exact HB.out)⟩

/-! ### jointerref07_Full: function 67 -/
end Go.Proofs.YthgfdnffnbclpaaGreatDoor.PAll
namespace Go.Proofs.YthgfdnffnbclpaaGreatDoor.PAll
open Go.RowKit Go.Proofs.YthgfdnffnbclpaaGreatDoorW.PrintWords Go.Proofs.YthgfdnffnbclpaaGreatDoorW.PrintLast Go.Proofs.YthgfdnffnbclpaaGreatDoorW.PrintMore

def valP (x : S64) : Bool :=
  if x.f0 = 0 then (x.f1 == 0 && x.f2.toList == []) else if x.f0 = 1 then x.f2.toList == [] else if x.f0 = 2 then (x.f1 == 0 && decide ((x.f2.size : Int) ≤ 100)) else if x.f0 = 3 then (x.f2.toList == [] && decide (IntKind.u64.wrap x.f1 ≤ 1)) else false

set_option maxRecDepth 100000 in
theorem value_Valid_walk (x : S64) (w : World) :
    Calls Tryz.prog 159 #[.agg #[.int .u8 x.f0, .int .i64 x.f1, .string x.f2]] w fun e w' => e = .returned (.bool (valP x)) ∧ Below w.heap.size w w' := by
  have hu64 := Tryz.underlying87
  have HB : Aside0 (∀ o, Below w.heap.size w (w.alloc o)) := ⟨fun o => (Below.refl _ _).alloc (Nat.le_refl _) _⟩
  unfold valP
  by_cases q0 : x.f0 = 0
  · have d0 : (x.f0 == 0) = true := beq_iff_eq.mpr q0
    rw [if_pos q0]
    clear q0
    go_enter Tryz.func159, Tryz.ntmps159
    go_wp2
    all_goals (go_ret; exact ⟨by simp_all, HB.out _⟩)
  · have d0 : (x.f0 == 0) = false := beq_eq_false_iff_ne.mpr q0
    rw [if_neg q0]
    clear q0
    by_cases q1 : x.f0 = 1
    · have d1 : (x.f0 == 1) = true := beq_iff_eq.mpr q1
      rw [if_pos q1]
      clear q1
      go_enter Tryz.func159, Tryz.ntmps159
      go_wp2
      go_ret
      exact ⟨by first | rfl | (simp [*]; done), HB.out _⟩
    · have d1 : (x.f0 == 1) = false := beq_eq_false_iff_ne.mpr q1
      rw [if_neg q1]
      clear q1
      by_cases q2 : x.f0 = 2
      · have d2 : (x.f0 == 2) = true := beq_iff_eq.mpr q2
        rw [if_pos q2]
        clear q2
        cases d3 : (x.f1 == 0) <;> (go_enter Tryz.func159, Tryz.ntmps159; go_wp2; go_ret; exact ⟨by first | rfl | (simp [*]; done), HB.out _⟩)
      · have d2 : (x.f0 == 2) = false := beq_eq_false_iff_ne.mpr q2
        rw [if_neg q2]
        clear q2
        by_cases q3 : x.f0 = 3
        · have d3 : (x.f0 == 3) = true := beq_iff_eq.mpr q3
          rw [if_pos q3]
          clear q3
          cases d4 : (x.f2.toList == []) <;> (go_enter Tryz.func159, Tryz.ntmps159; go_wp2; go_ret; exact ⟨by first | rfl | (simp [*]; done), HB.out _⟩)
        · have d3 : (x.f0 == 3) = false := beq_eq_false_iff_ne.mpr q3
          rw [if_neg q3]
          clear q3
          go_enter Tryz.func159, Tryz.ntmps159
          go_wp2
          go_ret
          exact ⟨by first | rfl | (simp [*]; done), HB.out _⟩

/-- The error of a value in a column. -/
def fitsP (c : S78) (x : S64) : Int :=
  if valP x = true then
    (if (x.f0 == 0) = true then (if c.f2 = true then 74 else 0)
     else if (x.f0 == c.f1) = true then
      (if (x.f0 == 1) = true then (if decide (x.f1 < c.f3) = true then 75 else if decide (c.f4 < x.f1) = true then 75 else 0)
       else if (x.f0 == 2) = true then (if decide (c.f4 < (x.f2.size : Int)) = true then 75 else 0) else 0)
     else 79)
  else 79

set_option maxRecDepth 100000 in
theorem fits_walk (c : S78) (x : S64) (w : World) :
    Calls Tryz.prog 124 #[.agg #[.string c.f0, .int .u8 c.f1, .bool c.f2, .int .i64 c.f3, .int .i64 c.f4], .agg #[.int .u8 x.f0, .int .i64 x.f1, .string x.f2]] w fun e w' => e = .returned (.int .i64 (fitsP c x)) ∧ Below w.heap.size w w' := by
  obtain ⟨E, hE⟩ : ∃ E, E = (w.alloc (Obj.cells #[.string c.f0, .int .u8 c.f1, .bool c.f2, .int .i64 c.f3, .int .i64 c.f4] 83)).alloc (Obj.cells #[.int .u8 x.f0, .int .i64 x.f1, .string x.f2] 87) := ⟨_, rfl⟩
  obtain ⟨gb, hgb⟩ : ∃ g, g = w.heap.size := ⟨_, rfl⟩
  have HE : Aside0 (∀ W, Below E.heap.size E W → Below w.heap.size w W) := ⟨fun W hW => below_step (by rw [hE]; exact ((Below.refl _ _).alloc (Nat.le_refl _) _).alloc (by simp) _) hW⟩
  have HGB : E.heap[gb]? = some (.cells #[.string c.f0, .int .u8 c.f1, .bool c.f2, .int .i64 c.f3, .int .i64 c.f4] 83 (0, 0)) := by rw [hE, hgb, Go.Deep.blk_alloc_lt _ _ _ (by simp)]; exact Go.Deep.blk_alloc_new w _
  have HGT : E.heap[gb + 1]? = some (.cells #[.int .u8 x.f0, .int .i64 x.f1, .string x.f2] 87 (0, 0)) := by rw [hE, hgb]; have := Go.Deep.blk_alloc_new (w.alloc (Obj.cells #[.string c.f0, .int .u8 c.f1, .bool c.f2, .int .i64 c.f3, .int .i64 c.f4] 83)) (Obj.cells #[.int .u8 x.f0, .int .i64 x.f1, .string x.f2] 87); simpa using this
  have FC : Aside0 (∀ W, Below E.heap.size E W → W.cell? ⟨gb, 1, none⟩ = some (.int .u8 c.f1) ∧ W.cell? ⟨gb, 2, none⟩ = some (.bool c.f2) ∧ W.cell? ⟨gb, 3, none⟩ = some (.int .i64 c.f3) ∧ W.cell? ⟨gb, 4, none⟩ = some (.int .i64 c.f4) ∧ W.cell? ⟨gb + 1, 0, none⟩ = some (.int .u8 x.f0) ∧ W.cell? ⟨gb + 1, 1, none⟩ = some (.int .i64 x.f1) ∧ W.cell? ⟨gb + 1, 2, none⟩ = some (.string x.f2)) := ⟨fun W hW => by
    have h1 := (hW.block _ (blk_lt HGB)).trans HGB
    have h2 := (hW.block _ (blk_lt HGT)).trans HGT
    exact ⟨(blk_cell h1 1).trans rfl, (blk_cell h1 2).trans rfl, (blk_cell h1 3).trans rfl, (blk_cell h1 4).trans rfl, (blk_cell h2 0).trans rfl, (blk_cell h2 1).trans rfl, (blk_cell h2 2).trans rfl⟩⟩
  clear HGB HGT
  have HV := Aside0.mk (value_Valid_walk x E)
  obtain ⟨r, hr⟩ : ∃ r, r = fitsP c x := ⟨_, rfl⟩
  rw [← hr]
  have HRQ := Aside0.mk hr
  clear hr
  subst hE
  subst hgb
  go_enter Tryz.func124, Tryz.ntmps124
  go_upto_region 1 with (fail)
  generalize (w.alloc (Obj.cells #[.string c.f0, .int .u8 c.f1, .bool c.f2, .int .i64 c.f3, .int .i64 c.f4] 83)).alloc (Obj.cells #[.int .u8 x.f0, .int .i64 x.f1, .string x.f2] 87) = E at *
  obtain ⟨e1, e2, e3, e4, e5, e6, e7⟩ := FC.out E (Below.refl _ _)
  cases dv : valP x
  · rw [dv] at HV
    have DV := Aside0.mk dv
    clear dv
    go_wp2_with (go_at_call 159; refine HV.out.mono ?_; rintro e w1 ⟨rfl, hb1⟩; clear e1 e2 e3 e4 e5 e6 e7; obtain ⟨e1, e2, e3, e4, e5, e6, e7⟩ := FC.out w1 hb1)
    go_ret
    exact ⟨by rw [HRQ.out]; simp [fitsP, DV.out, *], HE.out _ hb1⟩
  rw [dv] at HV
  have DV := Aside0.mk dv
  clear dv
  cases d0 : (x.f0 == 0)
  · have n0 : (x.f0 != 0) = true := by rw [bne, d0]; rfl
    cases d1 : (x.f0 == c.f1)
    · have n1 : (x.f0 != c.f1) = true := by rw [bne, d1]; rfl
      go_wp2_with (go_at_call 159; refine HV.out.mono ?_; rintro e w1 ⟨rfl, hb1⟩; clear e1 e2 e3 e4 e5 e6 e7; obtain ⟨e1, e2, e3, e4, e5, e6, e7⟩ := FC.out w1 hb1)
      go_ret
      exact ⟨by rw [HRQ.out]; simp [fitsP, DV.out, *], HE.out _ hb1⟩
    · have n1 : (x.f0 != c.f1) = false := by rw [bne, d1]; rfl
      cases d2 : (x.f0 == 1)
      · cases d3 : (x.f0 == 2)
        · go_wp2_with (go_at_call 159; refine HV.out.mono ?_; rintro e w1 ⟨rfl, hb1⟩; clear e1 e2 e3 e4 e5 e6 e7; obtain ⟨e1, e2, e3, e4, e5, e6, e7⟩ := FC.out w1 hb1)
          go_ret
          exact ⟨by rw [HRQ.out]; simp [fitsP, DV.out, *], HE.out _ hb1⟩
        · cases d4 : decide (c.f4 < (x.f2.size : Int))
          · go_wp2_with (go_at_call 159; refine HV.out.mono ?_; rintro e w1 ⟨rfl, hb1⟩; clear e1 e2 e3 e4 e5 e6 e7; obtain ⟨e1, e2, e3, e4, e5, e6, e7⟩ := FC.out w1 hb1)
            go_ret
            exact ⟨by rw [HRQ.out]; simp [fitsP, DV.out, *], HE.out _ hb1⟩
          · go_wp2_with (go_at_call 159; refine HV.out.mono ?_; rintro e w1 ⟨rfl, hb1⟩; clear e1 e2 e3 e4 e5 e6 e7; obtain ⟨e1, e2, e3, e4, e5, e6, e7⟩ := FC.out w1 hb1)
            go_ret
            exact ⟨by rw [HRQ.out]; simp [fitsP, DV.out, *], HE.out _ hb1⟩
      · have d9 : (x.f0 == 2) = false := by rw [beq_iff_eq] at d2; rw [d2]; rfl
        cases d3 : decide (x.f1 < c.f3)
        · cases d4 : decide (c.f4 < x.f1)
          · go_wp2_with (go_at_call 159; refine HV.out.mono ?_; rintro e w1 ⟨rfl, hb1⟩; clear e1 e2 e3 e4 e5 e6 e7; obtain ⟨e1, e2, e3, e4, e5, e6, e7⟩ := FC.out w1 hb1)
            go_ret
            exact ⟨by rw [HRQ.out]; simp [fitsP, DV.out, *], HE.out _ hb1⟩
          · go_wp2_with (go_at_call 159; refine HV.out.mono ?_; rintro e w1 ⟨rfl, hb1⟩; clear e1 e2 e3 e4 e5 e6 e7; obtain ⟨e1, e2, e3, e4, e5, e6, e7⟩ := FC.out w1 hb1)
            go_ret
            exact ⟨by rw [HRQ.out]; simp [fitsP, DV.out, *], HE.out _ hb1⟩
        · go_wp2_with (go_at_call 159; refine HV.out.mono ?_; rintro e w1 ⟨rfl, hb1⟩; clear e1 e2 e3 e4 e5 e6 e7; obtain ⟨e1, e2, e3, e4, e5, e6, e7⟩ := FC.out w1 hb1)
          go_ret
          exact ⟨by rw [HRQ.out]; simp [fitsP, DV.out, *], HE.out _ hb1⟩
  · have n0 : (x.f0 != 0) = false := by rw [bne, d0]; rfl
    have d8 : (x.f0 == 1) = false := by rw [beq_iff_eq] at d0; rw [d0]; rfl
    have d9 : (x.f0 == 2) = false := by rw [beq_iff_eq] at d0; rw [d0]; rfl
    cases d1 : c.f2
    · go_wp2_with (go_at_call 159; refine HV.out.mono ?_; rintro e w1 ⟨rfl, hb1⟩; clear e1 e2 e3 e4 e5 e6 e7; obtain ⟨e1, e2, e3, e4, e5, e6, e7⟩ := FC.out w1 hb1)
      go_ret
      exact ⟨by rw [HRQ.out]; simp [fitsP, DV.out, *], HE.out _ hb1⟩
    · go_wp2_with (go_at_call 159; refine HV.out.mono ?_; rintro e w1 ⟨rfl, hb1⟩; clear e1 e2 e3 e4 e5 e6 e7; obtain ⟨e1, e2, e3, e4, e5, e6, e7⟩ := FC.out w1 hb1)
      go_ret
      exact ⟨by rw [HRQ.out]; simp [fitsP, DV.out, *], HE.out _ hb1⟩
end Go.Proofs.YthgfdnffnbclpaaGreatDoor.PAll
namespace Go.Proofs.YthgfdnffnbclpaaGreatDoor.PAll
open Go.RowKit Go.Proofs.YthgfdnffnbclpaaGreatDoorW.PrintWords Go.Proofs.YthgfdnffnbclpaaGreatDoorW.PrintLast Go.Proofs.YthgfdnffnbclpaaGreatDoorW.PrintMore

/-- The error of the first value that does not fit. -/
def fitsL : List S78 → List S64 → Int
  | c :: cs, x :: xs => if fitsP c x = 0 then fitsL cs xs else fitsP c x
  | _, _ => 0
def fitsRowP (cols : List S78) (row : List S64) : Int := if row.length = cols.length then fitsL cols row else 78

set_option maxHeartbeats 4000000 in
set_option maxRecDepth 100000 in
theorem fitsRow_walk (a0 : ByteArray) (A1 : Option Addr) (c1 : Nat) (cols : List S78) (A2 : Option Addr) (n2 c2 : Nat) (A3 : Option Addr) (n3 c3 : Nat) (A4 : Option Addr) (n4 c4 : Nat) (A : Option Addr) (c : Nat) (row : List S64) (w : World)
    (h1 : Kd.C k78 w A1 cols.length cols) (hc1 : cols.length ≤ c1) (hR : Kd.C k64 w A row.length row) (hc : row.length ≤ c) :
    Calls Tryz.prog 69 #[.agg #[.string a0, .slice A1 cols.length c1, .slice A2 n2 c2, .slice A3 n3 c3, .slice A4 n4 c4], .slice A row.length c] w fun e w' => e = .returned (.int .i64 (fitsRowP cols row)) ∧ Below w.heap.size w w' := by
  obtain ⟨E, hE⟩ : ∃ E, E = w.alloc (Obj.cells #[.string a0, .slice A1 cols.length c1, .slice A2 n2 c2, .slice A3 n3 c3, .slice A4 n4 c4] 72) := ⟨_, rfl⟩
  obtain ⟨gb, hgb⟩ : ∃ g, g = w.heap.size := ⟨_, rfl⟩
  have HE : Aside0 (∀ W, Below E.heap.size E W → Below w.heap.size w W) := ⟨fun W hW => below_step (by rw [hE]; exact (Below.refl _ _).alloc (Nat.le_refl _) _) hW⟩
  have HGB : E.heap[gb]? = some (.cells #[.string a0, .slice A1 cols.length c1, .slice A2 n2 c2, .slice A3 n3 c3, .slice A4 n4 c4] 72 (0, 0)) := by rw [hE, hgb]; exact Go.Deep.blk_alloc_new w _
  have FC : Aside0 (∀ W, Below E.heap.size E W → W.cell? ⟨gb, 1, none⟩ = some (.slice A1 cols.length c1)) := ⟨fun W hW => (blk_cell ((hW.block _ (blk_lt HGB)).trans HGB) 1).trans rfl⟩
  clear HGB
  obtain ⟨r, hr⟩ : ∃ r, r = fitsRowP cols row := ⟨_, rfl⟩
  rw [← hr]
  have HRQ := Aside0.mk hr
  have H1 := Aside0.mk h1
  have HR := Aside0.mk hR
  clear hr h1 hR
  subst hE
  subst hgb
  go_enter Tryz.func69, Tryz.ntmps69
  go_upto_region 1 with (fail)
  generalize (w.alloc (Obj.cells #[.string a0, .slice A1 cols.length c1, .slice A2 n2 c2, .slice A3 n3 c3, .slice A4 n4 c4] 72)) = E at *
  have hB0 := Aside0.mk (Below.refl E.heap.size E)
  have e1 := FC.out E (Below.refl _ _)
  by_cases q : row.length = cols.length
  case neg =>
    have qi : ¬ ((row.length : Int) = (cols.length : Int)) := by omega
    have d1 : ((row.length : Int) == (cols.length : Int)) = false := beq_eq_false_iff_ne.mpr qi
    have d2 : ((row.length : Int) != (cols.length : Int)) = true := bne_iff_ne.mpr qi
    go_wp2
    go_ret
    exact ⟨by rw [HRQ.out]; simp [fitsRowP, q], HE.out _ hB0.out⟩
  have qi : ((row.length : Int) = (cols.length : Int)) := by omega
  have d1 : ((row.length : Int) == (cols.length : Int)) = true := beq_iff_eq.mpr qi
  have d2 : ((row.length : Int) != (cols.length : Int)) = false := by rw [bne, d1]; rfl
  have HQ := Aside0.mk q
  have HR0 : Aside0 (r = fitsL cols row) := ⟨by rw [HRQ.out, fitsRowP, if_pos q]⟩
  clear qi q HRQ
  go_wp2
  clear d1 d2 e1
  go_loopg [16] row.length (fun gk v16 wx => ∃ (i : Nat), i + gk = row.length ∧ v16 = .int .i64 i ∧ Aside0 (Below E.heap.size E wx) ∧ Aside0 (r = fitsL (cols.drop i) (row.drop i)))
  case atStart => exact ⟨0, by omega, rfl, hB0, by simpa using HR0⟩
  case round =>
    clear hB0 HR0
    obtain ⟨i, hi, rfl, HW, HP⟩ := hrel
    cases gk with
    | zero =>
      have e : row.drop i = [] := List.drop_eq_nil_of_le (by omega)
      have hp := HP.out
      rw [e] at hp
      have hp2 : r = 0 := by rw [hp]; cases cols.drop i <;> rfl
      have hii : ¬ (i : Int) < (row.length : Int) := by omega
      clear hp
      go_wp2
      go_ret
      exact ⟨by first | rfl | rw [hp2], HE.out _ HW.out⟩
    | succ gk =>
      have hlt : i < row.length := by omega
      have hltc : i < cols.length := by have := HQ.out; omega
      have hii : (i : Int) < (row.length : Int) := by omega
      have hic : (i : Int) < (cols.length : Int) := by omega
      have hi0 : (0 : Int) ≤ (i : Int) := by omega
      have hdr : row.drop i = row[i] :: row.drop (i + 1) := List.drop_eq_getElem_cons hlt
      have hdc : cols.drop i = cols[i] :: cols.drop (i + 1) := List.drop_eq_getElem_cons hltc
      have hrd : rd_T64 row (i : Int) = row[i] := by unfold rd_T64; simp [List.getD, hlt]
      have hrc : rd_T78 cols (i : Int) = cols[i] := by unfold rd_T78; simp [List.getD, hltc]
      obtain ⟨ad, hA, hx0, hx1, hx2⟩ := at_T64 HR.out (i : Int) hi0 hii
      cases hA
      obtain ⟨ac, hAc, hy0, hy1, hy2, hy3, hy4⟩ := at_T78 H1.out (i : Int) hi0 hic
      cases hAc
      rw [hrd, Int.toNat_natCast] at hx0 hx1 hx2
      rw [hrc, Int.toNat_natCast] at hy0 hy1 hy2 hy3 hy4
      have hBw := HE.out _ HW.out
      replace hx0 := (hBw.cell (World.block_lt_of_cell? w _ hx0)).trans hx0
      replace hx1 := (hBw.cell (World.block_lt_of_cell? w _ hx1)).trans hx1
      replace hx2 := (hBw.cell (World.block_lt_of_cell? w _ hx2)).trans hx2
      have HY : Aside0 (∀ W, Below wr.heap.size wr W → W.cell? (ac.add (i * 5)) = some (.string cols[i].f0) ∧ W.cell? ⟨(ac.add (i * 5)).block, (ac.add (i * 5)).off + 1, none⟩ = some (.int .u8 cols[i].f1) ∧ W.cell? ⟨(ac.add (i * 5)).block, (ac.add (i * 5)).off + 2, none⟩ = some (.bool cols[i].f2) ∧ W.cell? ⟨(ac.add (i * 5)).block, (ac.add (i * 5)).off + 3, none⟩ = some (.int .i64 cols[i].f3) ∧ W.cell? ⟨(ac.add (i * 5)).block, (ac.add (i * 5)).off + 4, none⟩ = some (.int .i64 cols[i].f4)) := ⟨fun W hW => by
        have hB := below_step hBw hW
        exact ⟨(hB.cell (World.block_lt_of_cell? w _ hy0)).trans hy0, (hB.cell (World.block_lt_of_cell? w _ hy1)).trans hy1, (hB.cell (World.block_lt_of_cell? w _ hy2)).trans hy2, (hB.cell (World.block_lt_of_cell? w _ hy3)).trans hy3, (hB.cell (World.block_lt_of_cell? w _ hy4)).trans hy4⟩⟩
      have hp := HP.out
      rw [hdr, hdc, fitsL] at hp
      clear hy0 hy1 hy2 hy3 hy4 HP hBw
      generalize row[i] = x at *
      generalize cols[i] = c at *
      have HP := Aside0.mk hp
      clear hp
      have HN := Aside0.mk (fits_walk c x)
      go_wp2
      obtain ⟨B, hB⟩ : ∃ B, B = wr.heap.size := ⟨_, rfl⟩
      obtain ⟨W1, hW1⟩ : ∃ W, W = wr.alloc (Obj.cells #[.int .u8 x.f0, .int .i64 x.f1, .string x.f2] 87) := ⟨_, rfl⟩
      have hBK : W1.heap[B]? = some (.cells #[.int .u8 x.f0, .int .i64 x.f1, .string x.f2] 87 (0, 0)) := by rw [hW1, hB]; exact Go.Deep.blk_alloc_new wr _
      have hBW : Below wr.heap.size wr W1 := by rw [hW1]; exact (Below.refl _ _).alloc (Nat.le_refl _) _
      rw [← hW1, ← hB]
      clear hW1 hB
      have KB : ∀ W, (Below W1.heap.size W1 W) → (W.cell? ⟨B, 0, none⟩ = some (.int .u8 x.f0) ∧ W.cell? ⟨B, 1, none⟩ = some (.int .i64 x.f1) ∧ W.cell? ⟨B, 2, none⟩ = some (.string x.f2)) ∧ W.cell? ⟨w.heap.size, 1, none⟩ = some (.slice (some ac) cols.length c1) ∧ (W.cell? (ac.add (i * 5)) = some (.string c.f0) ∧ W.cell? ⟨(ac.add (i * 5)).block, (ac.add (i * 5)).off + 1, none⟩ = some (.int .u8 c.f1) ∧ W.cell? ⟨(ac.add (i * 5)).block, (ac.add (i * 5)).off + 2, none⟩ = some (.bool c.f2) ∧ W.cell? ⟨(ac.add (i * 5)).block, (ac.add (i * 5)).off + 3, none⟩ = some (.int .i64 c.f3) ∧ W.cell? ⟨(ac.add (i * 5)).block, (ac.add (i * 5)).off + 4, none⟩ = some (.int .i64 c.f4)) ∧ Below W1.heap.size W1 W := fun W hW => by
        have hh := (hW.block _ (blk_lt hBK)).trans hBK
        exact ⟨⟨(blk_cell hh 0).trans rfl, (blk_cell hh 1).trans rfl, (blk_cell hh 2).trans rfl⟩, FC.out W (below_step HW.out (below_step hBW hW)), HY.out W (below_step hBW hW), hW⟩
      have hBB := Aside0.mk hBW
      clear hBK hBW hx0 hx1 hx2 hdr hdc hrd hrc
      have KD := KB _ (below_drew1 (Below.refl _ _))
      refine start_ (n := 8) (S := fun W => (W.cell? ⟨B, 0, none⟩ = some (.int .u8 x.f0) ∧ W.cell? ⟨B, 1, none⟩ = some (.int .i64 x.f1) ∧ W.cell? ⟨B, 2, none⟩ = some (.string x.f2)) ∧ W.cell? ⟨w.heap.size, 1, none⟩ = some (.slice (some ac) cols.length c1) ∧ (W.cell? (ac.add (i * 5)) = some (.string c.f0) ∧ W.cell? ⟨(ac.add (i * 5)).block, (ac.add (i * 5)).off + 1, none⟩ = some (.int .u8 c.f1) ∧ W.cell? ⟨(ac.add (i * 5)).block, (ac.add (i * 5)).off + 2, none⟩ = some (.bool c.f2) ∧ W.cell? ⟨(ac.add (i * 5)).block, (ac.add (i * 5)).off + 3, none⟩ = some (.int .i64 c.f3) ∧ W.cell? ⟨(ac.add (i * 5)).block, (ac.add (i * 5)).off + 4, none⟩ = some (.int .i64 c.f4)) ∧ Below W1.heap.size W1 W) (ds := []) #[false, false, false, false, false, false, false, false] (by kernel_rfl) rfl rfl KD (fun hHeld => ?_)
      clear KD
      refine pure_ (i := 0) (N := some 21) (v := ?_) (a' := ?_) #[true, false, false, false, false, false, false, false] rfl rfl (by kernel_rfl) (fun _ _ _ h => h) (Or.inl ⟨by rfl, ?_⟩) ?_ ?_
      rotate_left
      · intro w'; go_simp; with_reducible rfl
      rotate_left
      · simp only [Act.put, List.setIfInBounds_toArray, List.set_cons_zero, List.set_cons_succ, i64_w, i32_w]; rfl
      refine take_ (i := 1) (N := some 22) (v := ?_) (a' := ?_) #[true, true, false, false, false, false, false, false] rfl rfl (by kernel_rfl) (fun _ _ _ h => h) (Or.inl ⟨by rfl, ?_⟩) hHeld ?_ ?_
      rotate_left
      · rintro w' ⟨_, s0, _, _⟩; go_simp; with_reducible rfl
      rotate_left
      · simp only [Act.put, List.setIfInBounds_toArray, List.set_cons_zero, List.set_cons_succ, i64_w, i32_w]; rfl
      refine pure_ (i := 2) (N := some 23) (v := ?_) (a' := ?_) #[true, true, true, false, false, false, false, false] rfl rfl (by kernel_rfl) (fun _ _ _ h => h) (Or.inl ⟨by rfl, ?_⟩) ?_ ?_
      rotate_left
      · intro w'; go_simp; with_reducible rfl
      rotate_left
      · simp only [Act.put, List.setIfInBounds_toArray, List.set_cons_zero, List.set_cons_succ, i64_w, i32_w]; rfl
      refine pure_ (i := 3) (N := some 24) (v := ?_) (a' := ?_) #[true, true, true, true, false, false, false, false] rfl rfl (by kernel_rfl) (fun _ _ _ h => h) (Or.inl ⟨by rfl, ?_⟩) ?_ ?_
      rotate_left
      · intro w'; go_simp; with_reducible rfl
      rotate_left
      · simp only [Act.put, List.setIfInBounds_toArray, List.set_cons_zero, List.set_cons_succ, i64_w, i32_w]; rfl
      refine take_ (i := 4) (N := some 25) (v := ?_) (a' := ?_) #[true, true, true, true, true, false, false, false] rfl rfl (by kernel_rfl) (fun _ _ _ h => h) (Or.inl ⟨by rfl, ?_⟩) hHeld ?_ ?_
      rotate_left
      · rintro w' ⟨_, _, ⟨s0, s1, s2, s3, s4⟩, _⟩; go_simp; with_reducible rfl
      rotate_left
      · simp only [Act.put, List.setIfInBounds_toArray, List.set_cons_zero, List.set_cons_succ, i64_w, i32_w]; rfl
      refine take_ (i := 5) (N := some 26) (v := ?_) (a' := ?_) #[true, true, true, true, true, true, false, false] rfl rfl (by kernel_rfl) (fun _ _ _ h => h) (Or.inl ⟨by rfl, ?_⟩) hHeld ?_ ?_
      rotate_left
      · rintro w' ⟨⟨s0, s1, s2⟩, _⟩; go_simp; with_reducible rfl
      rotate_left
      · simp only [Act.put, List.setIfInBounds_toArray, List.set_cons_zero, List.set_cons_succ, i64_w, i32_w]; rfl
      refine one_ (i := 6) (N := some 27) #[true, true, true, true, true, true, true, false] rfl rfl (by kernel_rfl) (by decide) (fun K hK => ?_)
      refine goes_ Tryz.func124 (by kernel_rfl) rfl #[.agg #[.string c.f0, .int .u8 c.f1, .bool c.f2, .int .i64 c.f3, .int .i64 c.f4], .agg #[.int .u8 x.f0, .int .i64 x.f1, .string x.f2]] (by rfl) rfl rfl (by (try simp only [List.map_toArray, List.map_cons, List.map_nil]); first | done | rfl) ?_
      have hWd := below_step hBB.out hHeld.2.2.2
      refine (HN.out _).mono ?_
      rintro e w1 ⟨rfl, hb1⟩
      refine ⟨_, rfl, ?_⟩
      refine hK.out _ _ (KB _ (below_step hHeld.2.2.2 hb1)) (fun hHeld2 => ?_)
      clear hK K
      refine norm_ (a' := ?_) ?_ ?_
      rotate_left
      · show Act.put _ (some 27) _ = _; simp only [Act.put, List.setIfInBounds_toArray, List.set_cons_zero, List.set_cons_succ, i64_w, i32_w]; rfl
      refine pure_ (i := 7) (N := some 7) (v := ?_) (a' := ?_) #[true, true, true, true, true, true, true, true] rfl rfl (by kernel_rfl) (fun _ _ _ h => h) (Or.inl ⟨by rfl, ?_⟩) ?_ ?_
      rotate_left
      · intro w'; go_simp; with_reducible rfl
      rotate_left
      · simp only [Act.put, List.setIfInBounds_toArray, List.set_cons_zero, List.set_cons_succ, i64_w, i32_w]; rfl
      refine done_ (by kernel_rfl) ?_
      have HW2 := Aside0.mk (below_step HW.out (below_step hWd hb1))
      clear hWd hb1 hHeld hHeld2 KB HN HY
      by_cases q : fitsP c x = 0
      · have hp := HP.out
        rw [if_pos q] at hp
        have HP2 := Aside0.mk hp
        have d1 : (fitsP c x == 0) = true := beq_iff_eq.mpr q
        have d2 : (fitsP c x != 0) = false := by rw [bne, d1]; rfl
        clear hp q
        go_wp2
        go_roundg gk
        case measure => omega
        case rel => exact ⟨i + 1, by omega, by first | rfl | (simp; done) | (have := HR.out.2.1; simp; unfold wrap64; omega), HW2, HP2⟩
      · have hp := HP.out
        rw [if_neg q] at hp
        have d1 : (fitsP c x == 0) = false := beq_eq_false_iff_ne.mpr q
        have d2 : (fitsP c x != 0) = true := by rw [bne, d1]; rfl
        clear q HP
        go_wp2
        go_ret
        exact ⟨by (generalize fitsP c x = y at *; subst hp; first | rfl | (simp; done)), HE.out _ HW2.out⟩
end Go.Proofs.YthgfdnffnbclpaaGreatDoor.PAll
namespace Go.Proofs.YthgfdnffnbclpaaGreatDoor.PAll
open Go.RowKit Go.Proofs.YthgfdnffnbclpaaGreatDoorW.PrintWords Go.Proofs.YthgfdnffnbclpaaGreatDoorW.PrintLast Go.Proofs.YthgfdnffnbclpaaGreatDoorW.PrintMore

def fullP (row : List S64) : List Int → Option Bool
  | [] => some true
  | c :: r => if 0 ≤ c ∧ c < (row.length : Int) then (if (rd_T64 row c).f0 = 0 then some false else fullP row r) else none
def alikeP (a b : List S64) : List Int → List Int → Option Bool
  | [], _ => some true
  | c :: cs, q :: qs => if 0 ≤ c ∧ c < (a.length : Int) ∧ 0 ≤ q ∧ q < (b.length : Int) then (if rd_T64 a c = rd_T64 b q then alikeP a b cs qs else some false) else none
  | _ :: _, [] => none
theorem same_is (x y : S64) : jointerref01_Same.f x.f0 x.f1 x.f2 y.f0 y.f1 y.f2 = some (decide (x = y)) := by
  unfold jointerref01_Same.f
  by_cases h : x = y
  · rw [h, if_pos rfl, if_pos rfl, decide_eq_true rfl]
    simp
  · rw [decide_eq_false h]
    by_cases h0 : x.f0 = y.f0
    · rw [if_pos h0]
      by_cases h1 : x.f1 = y.f1
      · rw [if_pos h1]
        have h2 : ¬ x.f2.toList = y.f2.toList := fun e => h (by cases x; cases y; simp at h0 h1; have := (ba_eq _ _).1 e; simp at this; rw [h0, h1, this])
        rw [beq_eq_false_iff_ne.mpr h2]
      · rw [if_neg h1]
    · rw [if_neg h0]

/-- Whether one of some rows is like a row in a key. -/
def khIn (x : List S64) (key : List Int) : List (List S64) → Option Bool
  | [] => some false
  | y :: r => (alikeP x y key key).bind fun b => if b = true then some true else khIn x key r
def khP (rows : List (List S64)) (key : List Int) : Nat → Nat → Option Bool
  | 0, _ => some true
  | g + 1, i => (fullP (rd_L12 rows i) key).bind fun f => if f = true then ((khIn (rd_L12 rows i) key (rows.take i)).bind fun b => if b = true then some false else khP rows key g (i + 1)) else khP rows key g (i + 1)
theorem rdL12 {l : List (List S64)} {i : Nat} (h : i < l.length) : rd_L12 l (i : Int) = l[i] := by unfold rd_L12; simp [List.getD, h]
def refKeysP (rows : List (List S64)) : List (List Int) → Option Bool
  | [] => some true
  | k :: r => (khP rows k rows.length 0).bind fun b => if b = true then refKeysP rows r else some false

/-- Whether one of the other rows is alike, or it is already known. -/
def rhIn (row : List S64) (cols key : List Int) : Bool → List (List S64) → Option Bool
  | is, [] => some is
  | true, _ :: _ => some true
  | false, y :: r => (alikeP row y cols key).bind fun b => rhIn row cols key b r
def rhP (cols : List Int) (others : List (List S64)) (key : List Int) : List (List S64) → Option Bool
  | [] => some true
  | row :: l => (fullP row cols).bind fun f => (rhIn row cols key (!f) others).bind fun b => if b = true then rhP cols others key l else some false

end Go.Proofs.YthgfdnffnbclpaaGreatDoor.PAll
namespace Go.Proofs.YthgfdnffnbclpaaGreatDoor.PAll
open Go.RowKit Go.Proofs.YthgfdnffnbclpaaGreatDoorW.PrintWords Go.Proofs.YthgfdnffnbclpaaGreatDoorW.PrintLast Go.Proofs.YthgfdnffnbclpaaGreatDoorW.PrintMore

def rowsFitP (t : S49) : List (List S64) → Bool
  | [] => true
  | row :: r => if fitsRowP t.f1 row = 0 then rowsFitP t r else false
def dataFitP : List S49 → List (List (List S64)) → Bool
  | t :: s, rows :: d => if (rows.length : Int) > 1000 then false else if rowsFitP t rows = true then dataFitP s d else false
  | _, _ => true
def holdsP (s : List S49) (d : List (List (List S64))) : Nat → List (List (List S64)) → Option Bool
  | _, [] => some true
  | n, rows :: r => (keysP rows (rd_T49 s n).f2).bind fun a => if a = true then (refsP s d n (rd_T49 s n).f3).bind fun b => if b = true then holdsP s d (n + 1) r else some false else some false
def dataP (k : Nat) (s : List S49) (d : List (List (List S64))) : Option Bool :=
  (scheme_Valid.f k s).bind fun v => if v = true then (if d.length = s.length then (if dataFitP s d = true then holdsP s d 0 d else some false) else some false) else some false

set_option maxHeartbeats 4000000 in
set_option maxRecDepth 100000 in
theorem validData_walk (k : Nat) (A0 : Option Addr) (c0 : Nat) (s : List S49) (A1 : Option Addr) (c1 : Nat) (d : List (List (List S64))) (r : Bool) (w : World)
    (hS : Kd.C k49 w A0 s.length s) (hc0 : s.length ≤ c0) (hD : Kd.C (Kd.slice 89 (Kd.slice 87 k64)) w A1 d.length d) (hc1 : d.length ≤ c1) (hwf : ∀ rows ∈ d, ∀ row ∈ rows, ∀ x ∈ row, wfV x) (hL : LaidL w) (h : dataP k s d = some r) :
    Calls Tryz.prog 29 #[.slice A0 s.length c0, .slice A1 d.length c1] w fun e w' => e = .returned (.bool r) ∧ Below w.heap.size w w' := by
  have HS := Aside0.mk hS
  have HD := Aside0.mk hD
  have HWF := Aside0.mk hwf
  have HB0 := Aside0.mk (Below.refl w.heap.size w)
  unfold dataP at h
  obtain ⟨v, hv, h⟩ := Option.bind_eq_some_iff.mp h
  have HV := Aside0.mk (scheme_Valid.calls k A0 c0 s v w hS hc0 hv hL)
  have HH := Aside0.mk h
  clear hS hD hwf hL h hv
  go_enter Tryz.func29, Tryz.ntmps29
  cases v with
  | false =>
    have h := HH.out
    rw [if_neg (by decide)] at h
    obtain rfl := Option.some.inj h
    clear h
    go_wp2_with (go_at_call 28; refine HV.out.mono ?_; rintro e w1 ⟨rfl, hb1⟩)
    go_ret
    exact ⟨rfl, hb1⟩
  | true =>
    have h := HH.out
    rw [if_pos rfl] at h
    by_cases q : d.length = s.length
    case neg =>
      rw [if_neg q] at h
      obtain rfl := Option.some.inj h
      have qi : ¬ ((d.length : Int) = (s.length : Int)) := by omega
      have d1 : ((d.length : Int) == (s.length : Int)) = false := beq_eq_false_iff_ne.mpr qi
      have d2 : ((d.length : Int) != (s.length : Int)) = true := bne_iff_ne.mpr qi
      clear h HH q qi
      go_wp2_with (go_at_call 28; refine HV.out.mono ?_; rintro e w1 ⟨rfl, hb1⟩)
      go_ret
      exact ⟨rfl, hb1⟩
    rw [if_pos q] at h
    have qi : ((d.length : Int) = (s.length : Int)) := by omega
    have d1 : ((d.length : Int) == (s.length : Int)) = true := beq_iff_eq.mpr qi
    have d2 : ((d.length : Int) != (s.length : Int)) = false := by rw [bne, d1]; rfl
    have HQ := Aside0.mk q
    have HP := Aside0.mk h
    clear h HH q qi
    go_wp2_with (go_at_call 28; refine HV.out.mono ?_; rintro e w1 ⟨rfl, hb1⟩)
    have HB1 := Aside0.mk hb1
    clear hb1 d1 d2 HV HB0
    go_loopg [23] d.length (fun gk v23 wx => ∃ (n : Nat), n + gk = d.length ∧ v23 = .int .i64 n ∧ Aside0 (Below w.heap.size w wx) ∧ Aside0 ((if dataFitP (s.drop n) (d.drop n) = true then holdsP s d 0 d else some false) = some r))
    case atStart => exact ⟨0, by omega, rfl, HB1, by simpa using HP⟩
    case round =>
      clear HB1 HP
      obtain ⟨n, hn, rfl, HW, HP⟩ := hrel
      cases gk with
      | succ gk =>
        have hlt : n < d.length := by omega
        have hlts : n < s.length := by have := HQ.out; omega
        have hii : (n : Int) < (d.length : Int) := by omega
        have his : (n : Int) < (s.length : Int) := by omega
        have hi0 : (0 : Int) ≤ (n : Int) := by omega
        have hdr : d.drop n = d[n] :: d.drop (n + 1) := List.drop_eq_getElem_cons hlt
        have hds : s.drop n = s[n] :: s.drop (n + 1) := List.drop_eq_getElem_cons hlts
        have hrd : rd_L13 d (n : Int) = d[n] := by unfold rd_L13; simp [List.getD, hlt]
        have hrs : rd_T49 s (n : Int) = s[n] := by unfold rd_T49; simp [List.getD, hlts]
        obtain ⟨ad, Ar, cr, hA, hx, hcr, hCr⟩ := at_L13 HD.out (n : Int) hi0 hii
        cases hA
        rw [hrd] at hx hcr hCr
        rw [Int.toNat_natCast] at hx
        replace hx := (HW.out.cell (World.block_lt_of_cell? w _ hx)).trans hx
        have hp := HP.out
        rw [hdr, hds, dataFitP] at hp
        generalize d[n] = rows at *
        have HCR := Aside0.mk hCr
        by_cases q : (rows.length : Int) > 1000
        · rw [if_pos q, if_neg (by decide)] at hp
          obtain rfl := Option.some.inj hp
          have d1 : decide (1000 < (rows.length : Int)) = true := decide_eq_true q
          clear hp HP q hCr
          go_wp2
          go_ret
          exact ⟨rfl, HW.out⟩
        rw [if_neg q] at hp
        have d1 : decide (1000 < (rows.length : Int)) = false := decide_eq_false q
        obtain ⟨at_, A1, c1_, A2, c2, A3, c3, A4, c4, hAt, hy0, hy1, hy2, hy3, hy4, g1, h1, g2, h2, g3, h3, g4, h4⟩ := at_T49 HS.out (n : Int) hi0 his
        cases hAt
        rw [hrs] at hy0 hy1 hy2 hy3 hy4 g1 h1 g2 h2 g3 h3 g4 h4
        rw [Int.toNat_natCast] at hy0 hy1 hy2 hy3 hy4
        generalize s[n] = t at *
        have HF : Aside0 (∀ (A : Option Addr) (c : Nat) (row : List S64) (W : World), Below w.heap.size w W → Kd.C k64 W A row.length row → row.length ≤ c → Calls Tryz.prog 69 #[.agg #[.string t.f0, .slice A1 t.f1.length c1_, .slice A2 t.f2.length c2, .slice A3 t.f3.length c3, .slice A4 t.f4.length c4], .slice A row.length c] W fun e w' => e = .returned (.int .i64 (fitsRowP t.f1 row)) ∧ Below W.heap.size W w') := ⟨fun A c row W hW hC hc => fitsRow_walk t.f0 A1 c1_ t.f1 A2 _ c2 A3 _ c3 A4 _ c4 A c row W (Kd.C_below h1 hW) g1 hC hc⟩
        have HY : Aside0 (∀ W, Below w.heap.size w W → W.cell? (at_.add (n * 5)) = some (.string t.f0) ∧ W.cell? ⟨(at_.add (n * 5)).block, (at_.add (n * 5)).off + 1, none⟩ = some (.slice A1 t.f1.length c1_) ∧ W.cell? ⟨(at_.add (n * 5)).block, (at_.add (n * 5)).off + 2, none⟩ = some (.slice A2 t.f2.length c2) ∧ W.cell? ⟨(at_.add (n * 5)).block, (at_.add (n * 5)).off + 3, none⟩ = some (.slice A3 t.f3.length c3) ∧ W.cell? ⟨(at_.add (n * 5)).block, (at_.add (n * 5)).off + 4, none⟩ = some (.slice A4 t.f4.length c4)) := ⟨fun W hB =>
          ⟨(hB.cell (World.block_lt_of_cell? w _ hy0)).trans hy0, (hB.cell (World.block_lt_of_cell? w _ hy1)).trans hy1, (hB.cell (World.block_lt_of_cell? w _ hy2)).trans hy2, (hB.cell (World.block_lt_of_cell? w _ hy3)).trans hy3, (hB.cell (World.block_lt_of_cell? w _ hy4)).trans hy4⟩⟩
        have HP1 : Aside0 ((if rowsFitP t rows = true then (if dataFitP (s.drop (n + 1)) (d.drop (n + 1)) = true then holdsP s d 0 d else some false) else some false) = some r) := ⟨by
          rw [← hp]
          by_cases q1 : rowsFitP t rows = true
          · rw [if_pos q1, if_pos q1]
          · rw [if_neg q1, if_neg q1, if_neg (by decide)]⟩
        clear hp HP q hCr hy0 hy1 hy2 hy3 hy4 g1 h1 g2 h2 g3 h3 g4 h4 hdr hds hrd hrs
        go_wp2
        clear hx d1
        go_loopg [33] rows.length (fun gj v33 wx => ∃ (j : Nat), j + gj = rows.length ∧ v33 = .int .i64 j ∧ Aside0 (Below w.heap.size w wx) ∧ Aside0 ((if rowsFitP t (rows.drop j) = true then (if dataFitP (s.drop (n + 1)) (d.drop (n + 1)) = true then holdsP s d 0 d else some false) else some false) = some r))
        case atStart => exact ⟨0, by omega, rfl, HW, by simpa using HP1⟩
        case round =>
          clear HW HP1
          obtain ⟨j, hj, rfl, HW, HP⟩ := hrel
          rename_i gk1
          cases gk with
          | zero =>
            have e : rows.drop j = [] := List.drop_eq_nil_of_le (by omega)
            have hp := HP.out
            rw [e, rowsFitP, if_pos rfl] at hp
            have HP2 := Aside0.mk hp
            have hjj : ¬ (j : Int) < (rows.length : Int) := by omega
            clear hp HP
            go_wp2
            go_roundg gk
            case measure => omega
            case rel => exact ⟨n + 1, by omega, by first | rfl | (simp; done) | (have := HD.out.2.1; simp; unfold wrap64; omega), HW, HP2⟩
          | succ gk =>
            have hjlt : j < rows.length := by omega
            have hjj : (j : Int) < (rows.length : Int) := by omega
            have hj0 : (0 : Int) ≤ (j : Int) := by omega
            have hdrj : rows.drop j = rows[j] :: rows.drop (j + 1) := List.drop_eq_getElem_cons hjlt
            have hrdj : rd_L12 rows (j : Int) = rows[j] := by unfold rd_L12; simp [List.getD, hjlt]
            obtain ⟨adr, Aw, cw, hAw, hxw, hcw, hCw⟩ := at_L12 HCR.out (j : Int) hj0 hjj
            cases hAw
            rw [hrdj] at hxw hcw hCw
            rw [Int.toNat_natCast] at hxw
            replace hxw := (HW.out.cell (World.block_lt_of_cell? w _ hxw)).trans hxw
            have hp := HP.out
            rw [hdrj, rowsFitP] at hp
            generalize rows[j] = row at *
            obtain ⟨y0, y1, y2, y3, y4⟩ := HY.out wr HW.out
            have HN := Aside0.mk (HF.out Aw cw row wr HW.out (Kd.C_below hCw HW.out) hcw)
            by_cases q : fitsRowP t.f1 row = 0
            · rw [if_pos q] at hp
              have HP2 := Aside0.mk hp
              have d1 : (fitsRowP t.f1 row == 0) = true := beq_iff_eq.mpr q
              have d2 : (fitsRowP t.f1 row != 0) = false := by rw [bne, d1]; rfl
              clear hp q HP hCw hrdj hdrj HF HY
              go_wp2_with (go_at_call 69; refine HN.out.mono ?_; rintro e w1 ⟨rfl, hb1⟩)
              go_roundg gk
              case measure => omega
              case rel => exact ⟨j + 1, by omega, by first | rfl | (simp; done) | (have := HCR.out.2.1; simp; unfold wrap64; omega), ⟨below_step HW.out hb1⟩, HP2⟩
            · rw [if_neg q, if_neg (by decide)] at hp
              obtain rfl := Option.some.inj hp
              have d1 : (fitsRowP t.f1 row == 0) = false := beq_eq_false_iff_ne.mpr q
              have d2 : (fitsRowP t.f1 row != 0) = true := by rw [bne, d1]; rfl
              clear hp q HP hCw hrdj hdrj HF HY
              go_wp2_with (go_at_call 69; refine HN.out.mono ?_; rintro e w1 ⟨rfl, hb1⟩)
              go_ret
              exact ⟨rfl, below_step HW.out hb1⟩
      | zero =>
        have e : d.drop n = [] := List.drop_eq_nil_of_le (by omega)
        have hp := HP.out
        have hfit : dataFitP (s.drop n) [] = true := by cases s.drop n <;> rfl
        rw [e, hfit, if_pos rfl] at hp
        have HP2 := Aside0.mk hp
        have hii : ¬ (n : Int) < (d.length : Int) := by omega
        clear hp HP e hfit
        go_wp2
        clear hii hn
        go_loopg [48] d.length (fun gk v48 wx => ∃ (n : Nat), n + gk = d.length ∧ v48 = .int .i64 n ∧ Aside0 (Below w.heap.size w wx) ∧ Aside0 (holdsP s d n (d.drop n) = some r))
        case atStart => exact ⟨0, by omega, rfl, HW, by simpa using HP2⟩
        case round =>
          clear HW HP2
          obtain ⟨n, hn, rfl, HW, HP⟩ := hrel
          rename_i gk1
          cases gk with
          | zero =>
            have e : d.drop n = [] := List.drop_eq_nil_of_le (by omega)
            have hp := HP.out
            rw [e, holdsP] at hp
            obtain rfl := Option.some.inj hp
            have hii : ¬ (n : Int) < (d.length : Int) := by omega
            clear hp HP e
            go_wp2
            go_ret
            exact ⟨rfl, HW.out⟩
          | succ gk =>
            have hlt : n < d.length := by omega
            have hlts : n < s.length := by have := HQ.out; omega
            have hii : (n : Int) < (d.length : Int) := by omega
            have his : (n : Int) < (s.length : Int) := by omega
            have hi0 : (0 : Int) ≤ (n : Int) := by omega
            have hdr : d.drop n = d[n] :: d.drop (n + 1) := List.drop_eq_getElem_cons hlt
            have hrd : rd_L13 d (n : Int) = d[n] := by unfold rd_L13; simp [List.getD, hlt]
            have hmem : d[n] ∈ d := List.getElem_mem hlt
            obtain ⟨ad, Ar, cr, hA, hx, hcr, hCr⟩ := at_L13 HD.out (n : Int) hi0 hii
            cases hA
            rw [hrd] at hx hcr hCr
            rw [Int.toNat_natCast] at hx
            replace hx := (HW.out.cell (World.block_lt_of_cell? w _ hx)).trans hx
            have hp := HP.out
            rw [hdr, holdsP] at hp
            have hwr := HWF.out d[n] hmem
            clear hmem
            generalize d[n] = rows at *
            obtain ⟨a, ha, hp⟩ := Option.bind_eq_some_iff.mp hp
            obtain ⟨at_, A1, c1_, A2, c2, A3, c3, A4, c4, hAt, y0, y1, y2, y3, y4, g1, h1, g2, h2, g3, h3, g4, h4⟩ := at_T49 HS.out (n : Int) hi0 his
            cases hAt
            rw [Int.toNat_natCast] at y0 y1 y2 y3 y4
            replace y0 := (HW.out.cell (World.block_lt_of_cell? w _ y0)).trans y0
            replace y1 := (HW.out.cell (World.block_lt_of_cell? w _ y1)).trans y1
            replace y2 := (HW.out.cell (World.block_lt_of_cell? w _ y2)).trans y2
            replace y3 := (HW.out.cell (World.block_lt_of_cell? w _ y3)).trans y3
            replace y4 := (HW.out.cell (World.block_lt_of_cell? w _ y4)).trans y4
            have HN := Aside0.mk (keysHold_walk (rd_T49 s n).f0 A1 c1_ (rd_T49 s n).f1.length A2 c2 (rd_T49 s n).f2 A3 c3 (rd_T49 s n).f3.length A4 c4 (rd_T49 s n).f4.length Ar cr rows a wr (Kd.C_below h2 HW.out) g2 (Kd.C_below hCr HW.out) hcr hwr ha)
            have HP1 := Aside0.mk hp
            clear hp HP hCr g1 h1 g2 h2 g3 h3 g4 h4 hdr hrd hwr ha
            cases a with
            | false =>
              have hp := HP1.out
              rw [if_neg (by decide)] at hp
              obtain rfl := Option.some.inj hp
              clear hp HP1
              generalize rd_T49 s n = t at *
              go_wp2_with (go_at_call 72; refine HN.out.mono ?_; rintro e w1 ⟨rfl, hb1⟩)
              go_ret
              exact ⟨rfl, below_step HW.out hb1⟩
            | true =>
              have hp := HP1.out
              rw [if_pos rfl] at hp
              obtain ⟨b, hb, hp⟩ := Option.bind_eq_some_iff.mp hp
              have HR2 : Aside0 (∀ W, Below w.heap.size w W → Calls Tryz.prog 73 #[.slice (some at_) s.length c0, .slice (some ad) d.length c1, .int .i64 n] W fun e w' => e = .returned (.bool b) ∧ Below W.heap.size W w') := ⟨fun W hW => refsHold_walk (some at_) c0 s (some ad) c1 d n b W (Kd.C_below HS.out hW) hc0 (Kd.C_below HD.out hW) hc1 HWF.out hi0 his hii hb⟩
              have HP2 := Aside0.mk hp
              clear hp HP1 hb
              generalize rd_T49 s n = t at *
              cases b with
              | false =>
                have hp := HP2.out
                rw [if_neg (by decide)] at hp
                obtain rfl := Option.some.inj hp
                clear hp HP2
                go_wp2_with (first | (go_at_call 72; refine HN.out.mono ?_; rintro e w1 ⟨rfl, hb1⟩) | (go_at_call 73; refine (HR2.out _ (below_step HW.out hb1)).mono ?_; rintro e w2 ⟨rfl, hb2⟩))
                go_ret
                exact ⟨rfl, below_step (below_step HW.out hb1) hb2⟩
              | true =>
                have hp := HP2.out
                rw [if_pos rfl] at hp
                have HP3 := Aside0.mk hp
                clear hp HP2
                go_wp2_with (first | (go_at_call 72; refine HN.out.mono ?_; rintro e w1 ⟨rfl, hb1⟩) | (go_at_call 73; refine (HR2.out _ (below_step HW.out hb1)).mono ?_; rintro e w2 ⟨rfl, hb2⟩))
                go_roundg gk
                case measure => omega
                case rel => exact ⟨n + 1, by omega, by first | rfl | (simp; done) | (have := HD.out.2.1; simp; unfold wrap64; omega), ⟨below_step (below_step HW.out hb1) hb2⟩, HP3⟩
end Go.Proofs.YthgfdnffnbclpaaGreatDoor.PAll
namespace Go.Proofs.YthgfdnffnbclpaaGreatDoor.PAll
open Go.RowKit Go.Proofs.YthgfdnffnbclpaaGreatDoorW.PrintWords Go.Proofs.YthgfdnffnbclpaaGreatDoorW.PrintLast Go.Proofs.YthgfdnffnbclpaaGreatDoorW.PrintMore

def refRefsP (s : List S49) (d : List (List (List S64))) (n : Nat) : List S75 → Option Bool
  | [] => some true
  | r :: l => if 0 ≤ r.f1 ∧ r.f1 < (s.length : Int) ∧ r.f1 < (d.length : Int) ∧ 0 ≤ r.f2 ∧ r.f2 < ((rd_T49 s r.f1).f2.length : Int) then
      (rhP r.f0 (rd_L13 d r.f1) (rd_L6 (rd_T49 s r.f1).f2 r.f2) (rd_L13 d n)).bind fun b => if b = true then refRefsP s d n l else some false
    else none

theorem rdL13 {l : List (List (List S64))} {i : Nat} (h : i < l.length) : rd_L13 l (i : Int) = l[i] := by unfold rd_L13; simp [List.getD, h]
def refHoldsP (s : List S49) (d : List (List (List S64))) : Nat → Nat → Option Bool
  | 0, _ => some true
  | g + 1, i => (refKeysP (rd_L13 d i) (rd_T49 s i).f2).bind fun a => if a = true then (refRefsP s d i (rd_T49 s i).f3).bind fun b => if b = true then refHoldsP s d g (i + 1) else some false else some false
end Go.Proofs.YthgfdnffnbclpaaGreatDoor.PAll
namespace Go.Proofs.YthgfdnffnbclpaaGreatDoor.PAll
open Go.RowKit Go.Proofs.YthgfdnffnbclpaaGreatDoorW.PrintWords Go.Proofs.YthgfdnffnbclpaaGreatDoorW.PrintLast Go.Proofs.YthgfdnffnbclpaaGreatDoorW.PrintMore

def scheme_Find.f (k : Nat) (s : List S49) (nm : ByteArray) : Option (Int × Bool) :=
  if 0 ≤ findP nm 0 s then (scheme_Valid.f k s).bind fun v => if v = true then some (findP nm 0 s, true) else some (0, false) else some (0, false)

set_option maxHeartbeats 4000000 in
set_option maxRecDepth 100000 in
theorem scheme_Find.calls (k : Nat) (A0 : Option Addr) (c0 : Nat) (s : List S49) (nm : ByteArray) (r1 : Int) (r2 : Bool) (w : World) (hS : Kd.C k49 w A0 s.length s) (hc0 : s.length ≤ c0) (h : scheme_Find.f k s nm = some (r1, r2)) (hL : LaidL w) :
    Calls Tryz.prog 40 #[.slice A0 s.length c0, .string nm] w fun e w' => e = .returned (.tuple #[.int .i64 r1, .bool r2]) ∧ Below w.heap.size w w' := by
  unfold scheme_Find.f at h
  have HF := Aside0.mk (scheme_find.calls A0 c0 s nm (findP nm 0 s) w hS hc0 rfl)
  generalize findP nm 0 s = n at *
  by_cases q : 0 ≤ n
  · rw [if_pos q] at h
    have d1 : decide (0 ≤ n) = true := decide_eq_true q
    obtain ⟨v, hv, h⟩ := Option.bind_eq_some_iff.mp h
    have HV : Aside0 (∀ W, Below w.heap.size w W → Calls Tryz.prog 28 #[.slice A0 s.length c0] W fun e w' => e = .returned (.bool v) ∧ Below W.heap.size W w') := ⟨fun W hW => scheme_Valid.calls k A0 c0 s v W (Kd.C_below hS hW) hc0 hv (LaidL.below ⟨hL⟩ hW)⟩
    clear hS hL hv q
    cases v with
    | false =>
      rw [if_neg (by decide)] at h
      cases h
      go_enter Tryz.func40, Tryz.ntmps40
      go_wp2_with (first | (go_at_call 33; refine HF.out.mono ?_; rintro e w1 ⟨rfl, hb1⟩) | (go_at_call 28; refine (HV.out _ hb1).mono ?_; rintro e w2 ⟨rfl, hb2⟩))
      go_ret2
      exact ⟨rfl, below_step hb1 hb2⟩
    | true =>
      rw [if_pos rfl] at h
      cases h
      go_enter Tryz.func40, Tryz.ntmps40
      go_wp2_with (first | (go_at_call 33; refine HF.out.mono ?_; rintro e w1 ⟨rfl, hb1⟩) | (go_at_call 28; refine (HV.out _ hb1).mono ?_; rintro e w2 ⟨rfl, hb2⟩))
      go_ret2
      exact ⟨rfl, below_step hb1 hb2⟩
  · rw [if_neg q] at h
    cases h
    have d1 : decide (0 ≤ n) = false := decide_eq_false q
    clear q hS
    go_enter Tryz.func40, Tryz.ntmps40
    go_wp2_with (go_at_call 33; refine HF.out.mono ?_; rintro e w1 ⟨rfl, hb1⟩)
    go_ret2
    exact ⟨rfl, hb1⟩
end Go.Proofs.YthgfdnffnbclpaaGreatDoor.PAll
