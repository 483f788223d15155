import Derived.Test.YthgfdnffnbclpaaGreatDoorSQG06
import Derived.Test.YthgfdnffnbclpaaGreatDoorSQG10
import Derived.Test.YthgfdnffnbclpaaGreatDoorSQG08
set_option linter.unusedVariables false
set_option linter.unusedSimpArgs false
namespace Go.Proofs.YthgfdnffnbclpaaGreatDoor.PAll
open Go.RowKit Go.Proofs.YthgfdnffnbclpaaGreatDoorW.PrintWords Go.Proofs.YthgfdnffnbclpaaGreatDoorW.PrintLast Go.Proofs.YthgfdnffnbclpaaGreatDoorW.PrintMore
attribute [local go_sem] max2_int min2_int max_two min_two max_three min_three max_four min_four
attribute [local go_sem high] eqA64
def scheme_Valid_1.f (a0_0 : ByteArray) (l0_1 : List (S78)) (l0_2 : List (List Int)) (l0_3 : List (S75)) (l0_4 : List Int) : Option (ByteArray) := some a0_0
set_option maxHeartbeats 8000000 in
set_option maxRecDepth 100000 in
theorem scheme_Valid_1.calls (a0_0 : ByteArray) (A0_1 : Option Addr) (c0_1 : Nat) (l0_1 : List (S78)) (A0_2 : Option Addr) (c0_2 : Nat) (l0_2 : List (List Int)) (A0_3 : Option Addr) (c0_3 : Nat) (l0_3 : List (S75)) (A0_4 : Option Addr) (c0_4 : Nat) (l0_4 : List Int) (r : ByteArray) (w : World) (hr0_1 : Kd.C k78 w A0_1 l0_1.length l0_1) (hc0_1 : l0_1.length ≤ c0_1) (hr0_2 : Kd.C (Kd.slice 3 (Kd.int .i64)) w A0_2 l0_2.length l0_2) (hc0_2 : l0_2.length ≤ c0_2) (hr0_3 : Kd.C k75 w A0_3 l0_3.length l0_3) (hc0_3 : l0_3.length ≤ c0_3) (hr0_4 : Kd.C (Kd.int .i64) w A0_4 l0_4.length l0_4) (hc0_4 : l0_4.length ≤ c0_4) (h : scheme_Valid_1.f a0_0 l0_1 l0_2 l0_3 l0_4 = some r) :
  Calls Tryz.prog 76 #[.agg #[.string a0_0, .slice A0_1 l0_1.length c0_1, .slice A0_2 l0_2.length c0_2, .slice A0_3 l0_3.length c0_3, .slice A0_4 l0_4.length c0_4]] w fun e w' => e = .returned (.string r) ∧ Below w.heap.size w w' := by
 have hu49 := Tryz.underlying72
 have HR0_1 := Aside0.mk hr0_1
 have HC0_1 := Aside0.mk hc0_1
 clear hr0_1 hc0_1
 have HR0_2 := Aside0.mk hr0_2
 have HC0_2 := Aside0.mk hc0_2
 clear hr0_2 hc0_2
 have HR0_3 := Aside0.mk hr0_3
 have HC0_3 := Aside0.mk hc0_3
 clear hr0_3 hc0_3
 have HR0_4 := Aside0.mk hr0_4
 have HC0_4 := Aside0.mk hc0_4
 clear hr0_4 hc0_4
 have HB := Aside0.mk (Below.refl w.heap.size w)
 have H : (some a0_0) = some r := h
 clear h
 obtain rfl := Option.some.inj H
 go_enter Tryz.func76, Tryz.ntmps76
 go_wp2_with (first | ((with_reducible refine gate_dst (N := 1) rfl ?_); refine box_event ?hg (N := 1) ?hd (cs := #[.string a0_0, .slice A0_1 l0_1.length c0_1, .slice A0_2 l0_2.length c0_2, .slice A0_3 l0_3.length c0_3, .slice A0_4 l0_4.length c0_4]) (t := 72) ?hr ?_; (case hd => rfl); (case hg => rfl); (case hr => first | (go_simp; done) | (go_simp; rfl)); intro gb112 hg w2 hbox hb; have n0_ := Aside0.mk (below_step (by repeat (first | (with_reducible first | exact HB.out | apply below_alloc | apply pw_below_drewN | apply below_drew1) | exact HB.out)) hb); have n1_ := Aside0.mk (hbox); have n2_ := Aside0.mk ((by rw [hg]; exact (below_size (by repeat (first | (with_reducible first | exact HB.out | apply below_alloc | apply pw_below_drewN | apply below_drew1) | exact HB.out))) : w.heap.size ≤ gb112)); have n3_ := Aside0.mk ((by rw [hg]; exact (below_size (by repeat (first | (with_reducible first | exact HB.out | apply below_alloc | apply pw_below_drewN | apply below_drew1) | exact HB.out))) : w.heap.size ≤ gb112)); clear HB; have HB := n0_; have BK112 := n1_; have GW112 := n2_; have GE112 := n3_; clear n0_ n1_ n2_ n3_; clear hb hbox hg; have hcz3_0 : w2.cell? ⟨gb112, 0, none⟩ = some (.string a0_0) := (blk_cell BK112.out 0).trans rfl; have hcz3_1 : w2.cell? ⟨gb112, 1, none⟩ = some (.slice A0_1 l0_1.length c0_1) := (blk_cell BK112.out 1).trans rfl; have hcz3_2 : w2.cell? ⟨gb112, 2, none⟩ = some (.slice A0_2 l0_2.length c0_2) := (blk_cell BK112.out 2).trans rfl; have hcz3_3 : w2.cell? ⟨gb112, 3, none⟩ = some (.slice A0_3 l0_3.length c0_3) := (blk_cell BK112.out 3).trans rfl; have hcz3_4 : w2.cell? ⟨gb112, 4, none⟩ = some (.slice A0_4 l0_4.length c0_4) := (blk_cell BK112.out 4).trans rfl; have hfz3_0 := blk_frozen BK112.out 0; have hfz3_1 := blk_frozen BK112.out 1; have hfz3_2 := blk_frozen BK112.out 2; have hfz3_3 := blk_frozen BK112.out 3; have hfz3_4 := blk_frozen BK112.out 4))
 go_ret
 exact ⟨by first | rfl | (simp [errW_none, errW_some] <;> rfl) | (simp [*, errW_none, errW_some] <;> rfl), by repeat (first | (with_reducible first | exact HB.out | apply below_alloc | apply pw_below_drewN | apply below_drew1 | refine below_set ?_ GE112.out) | exact HB.out)⟩
def scheme_validTable_1.f (a0_0 : ByteArray) (a0_1 : Int) (a0_2 : Bool) (a0_3 : Int) (a0_4 : Int) : Option (ByteArray) := some a0_0
set_option maxHeartbeats 8000000 in
set_option maxRecDepth 100000 in
theorem scheme_validTable_1.calls (a0_0 : ByteArray) (a0_1 : Int) (a0_2 : Bool) (a0_3 : Int) (a0_4 : Int) (r : ByteArray) (w : World) (h : scheme_validTable_1.f a0_0 a0_1 a0_2 a0_3 a0_4 = some r) :
  Calls Tryz.prog 129 #[.agg #[.string a0_0, .int .u8 a0_1, .bool a0_2, .int .i64 a0_3, .int .i64 a0_4]] w fun e w' => e = .returned (.string r) ∧ Below w.heap.size w w' := by
 have hu78 := Tryz.underlying83
 have HB := Aside0.mk (Below.refl w.heap.size w)
 have H : (some a0_0) = some r := h
 clear h
 obtain rfl := Option.some.inj H
 go_enter Tryz.func129, Tryz.ntmps129
 go_wp2_with (first | ((with_reducible refine gate_dst (N := 1) rfl ?_); refine box_event ?hg (N := 1) ?hd (cs := #[.string a0_0, .int .u8 a0_1, .bool a0_2, .int .i64 a0_3, .int .i64 a0_4]) (t := 83) ?hr ?_; (case hd => rfl); (case hg => rfl); (case hr => first | (go_simp; done) | (go_simp; rfl)); intro gb113 hg w2 hbox hb; have n0_ := Aside0.mk (below_step (by repeat (first | (with_reducible first | exact HB.out | apply below_alloc | apply pw_below_drewN | apply below_drew1) | exact HB.out)) hb); have n1_ := Aside0.mk (hbox); have n2_ := Aside0.mk ((by rw [hg]; exact (below_size (by repeat (first | (with_reducible first | exact HB.out | apply below_alloc | apply pw_below_drewN | apply below_drew1) | exact HB.out))) : w.heap.size ≤ gb113)); have n3_ := Aside0.mk ((by rw [hg]; exact (below_size (by repeat (first | (with_reducible first | exact HB.out | apply below_alloc | apply pw_below_drewN | apply below_drew1) | exact HB.out))) : w.heap.size ≤ gb113)); clear HB; have HB := n0_; have BK113 := n1_; have GW113 := n2_; have GE113 := n3_; clear n0_ n1_ n2_ n3_; clear hb hbox hg; have hcz3_0 : w2.cell? ⟨gb113, 0, none⟩ = some (.string a0_0) := (blk_cell BK113.out 0).trans rfl; have hcz3_1 : w2.cell? ⟨gb113, 1, none⟩ = some (.int .u8 a0_1) := (blk_cell BK113.out 1).trans rfl; have hcz3_2 : w2.cell? ⟨gb113, 2, none⟩ = some (.bool a0_2) := (blk_cell BK113.out 2).trans rfl; have hcz3_3 : w2.cell? ⟨gb113, 3, none⟩ = some (.int .i64 a0_3) := (blk_cell BK113.out 3).trans rfl; have hcz3_4 : w2.cell? ⟨gb113, 4, none⟩ = some (.int .i64 a0_4) := (blk_cell BK113.out 4).trans rfl; have hfz3_0 := blk_frozen BK113.out 0; have hfz3_1 := blk_frozen BK113.out 1; have hfz3_2 := blk_frozen BK113.out 2; have hfz3_3 := blk_frozen BK113.out 3; have hfz3_4 := blk_frozen BK113.out 4))
 go_ret
 exact ⟨by first | rfl | (simp [errW_none, errW_some] <;> rfl) | (simp [*, errW_none, errW_some] <;> rfl), by repeat (first | (with_reducible first | exact HB.out | apply below_alloc | apply pw_below_drewN | apply below_drew1 | refine below_set ?_ GE113.out) | exact HB.out)⟩
def scheme_mapTableName.l0 : Nat → List ByteArray → List (S49) → Int → Int → Option (List ByteArray)
 | 0, _, _, _, _ => none
 | k + 1, x5, x11, x12, x13 => if x13 < x12 then (if 0 ≤ x13 then (if x13 < (x11.length : Int) then ((scheme_Valid_1.f ((rd_T49 x11 x13).f0) ((rd_T49 x11 x13).f1) ((rd_T49 x11 x13).f2) ((rd_T49 x11 x13).f3) ((rd_T49 x11 x13).f4)).bind fun t295 => (if x5.length < 8796093022208 then (scheme_mapTableName.l0 k (x5 ++ [t295]) x11 x12 (wrap64 (x13 + 1))) else (none))) else (none)) else (none)) else (some x5)
def scheme_mapTableName.f (k : Nat) (l0 : List (S49)) (a1 : Int) : Option (List ByteArray) := if l0.length ≤ 17592186044416 then (scheme_mapTableName.l0 k ([] : List ByteArray) l0 (l0.length : Int) 0) else none
set_option maxHeartbeats 8000000 in
set_option maxRecDepth 100000 in
theorem scheme_mapTableName.calls (k : Nat) (A0 : Option Addr) (c0 : Nat) (l0 : List (S49)) (a1 : Int) (r : List ByteArray) (w : World) (hr0 : Kd.C k49 w A0 l0.length l0) (hc0 : l0.length ≤ c0) (h : scheme_mapTableName.f k l0 a1 = some r) :
  Calls Tryz.prog 75 #[.slice A0 l0.length c0, .func (.func 76) #[] #[]] w fun e w' => ∃ v0_ : Value, e = .returned (v0_) ∧ Kd.R Kd.string 9 w' w.heap.size (fun _ => True) v0_ r ∧ Below w.heap.size w w' := by
 have hu49 := Tryz.underlying72
 have HR0 := Aside0.mk hr0
 have HC0 := Aside0.mk hc0
 clear hr0 hc0
 have HB := Aside0.mk (Below.refl w.heap.size w)
 have hlen : l0.length ≤ 17592186044416 := by
  unfold scheme_mapTableName.f at h
  split at h
  ·assumption
  ·cases h
 have H : (scheme_mapTableName.l0 k ([] : List ByteArray) l0 (l0.length : Int) 0) = some r := by
  unfold scheme_mapTableName.f at h
  rw [if_pos hlen] at h
  exact h
 clear h
 obtain ⟨i0, hi0, hz0, hz1, hz2⟩ := info_parts (P := Tryz.prog) (e := 9) (z := .string ⟨#[]⟩) (size := 1) (bytes := 16) (by kernel_rfl)
 obtain ⟨W1, hmk0, hown0, hgr0⟩ := run_make_own w w.heap.size 103 9 i0 _ 1 Tryz.underlying103 hi0 hz0 hz1 .i64 .i64 l0.length (by rw [hz2]; omega) (by unfold maxLen; omega) (Nat.le_refl _)
 have HB1 : Aside0 (Below w.heap.size w W1) := ⟨(Below.refl _ _).grown hgr0 (Nat.le_refl _) (fun j hj => by cases hj)⟩
 have HOW := Aside0.mk hown0
 clear HB hown0 hgr0 hi0 hz0 hz1 hz2
 have HB := HB1
 have H' := Aside0.mk H
 clear H
 go_enter Tryz.func75, Tryz.ntmps75
 go_wp2
 go_loopg [5, 13] k (fun kq v5 v13 w' => ∃ (x5_1 : List ByteArray) (x13_1 : Int), v13 = .int .i64 x13_1 ∧ Aside0 (scheme_mapTableName.l0 kq x5_1 l0 (l0.length : Int) x13_1 = some r) ∧ Aside0 (kq ≤ k) ∧ Aside0 (Kd.R Kd.string 9 w' w.heap.size (fun _ => True) v5 x5_1) ∧ Aside0 (Below w.heap.size w w'))
 case atStart => exact ⟨(([] : List ByteArray)), (0), (by first | rfl | (simp; done) | (simp [*]; done)), H', ⟨Nat.le_refl _⟩, ⟨by first | exact ⟨fun _ _ => trivial, [], HOW.out, Reps.none _ _⟩ | exact Kd.R_nil _ _ _ _ _ | exact Kd.N_nil _ _ _ _ _ | exact Kd.V_nil _ _ _ _ _ | exact Kd.Q_nil _ _ _ _ _ | exact Kd.S_nil _ _ _ _ _⟩, ⟨by repeat (first | (with_reducible first | exact HB.out | apply below_alloc | apply pw_below_drewN | apply below_drew1) | exact HB.out)⟩⟩
 case round =>
  clear H'
  try clear p2
  obtain ⟨x5_1, x13_1, rfl, HA, HK1, HO_5, HB⟩ := hrel
  cases gk with
  | zero => exact absurd HA.out (by simp [scheme_mapTableName.l0])
  | succ k1 =>
   have H := HA.out
   clear HA
   simp only [scheme_mapTableName.l0] at H
   by_cases c3 : x13_1 < (l0.length : Int)
   ·rw [if_pos c3] at H
    have c3b0 : decide (x13_1 < (l0.length : Int)) = true := decide_eq_true c3
    clear c3
    by_cases c4 : 0 ≤ x13_1
    ·rw [if_pos c4] at H
     have c4b0 : decide (0 ≤ x13_1) = true := decide_eq_true c4
     clear c4
     by_cases c5 : x13_1 < (l0.length : Int)
     ·rw [if_pos c5] at H
      have c5b0 : decide (x13_1 < (l0.length : Int)) = true := decide_eq_true c5
      clear c5
      replace H := Option.bind_eq_some_iff.mp H
      obtain ⟨t295, A60, H⟩ := H
      replace H : (if x5_1.length < 8796093022208 then (scheme_mapTableName.l0 k1 (x5_1 ++ [t295]) l0 (l0.length : Int) (wrap64 (x13_1 + 1))) else (none)) = some r := H
      have A6 := Aside0.mk A60
      clear A60
      by_cases c7 : x5_1.length < 8796093022208
      ·rw [if_pos c7] at H
       have LMc7 := Aside0.mk c7
       clear c7
       obtain ⟨y296, hy296⟩ : ∃ y_ : List ByteArray, y_ = (x5_1 ++ [t295]) := ⟨_, rfl⟩
       replace H : (scheme_mapTableName.l0 k1 y296 l0 (l0.length : Int) (wrap64 (x13_1 + 1))) = some r := by first | (rw [hy296]; with_reducible exact H) | (have H2_ := (Option.bind_some _ _).symm.trans H; rw [hy296]; with_reducible exact H2_) | (have H2_ := (Option.bind_some _ _).symm.trans H; with_reducible exact H2_) | with_reducible exact H | (rw [hy296]; exact H) | exact H
       have Ny296 := Aside0.mk hy296
       clear hy296
       have H' := Aside0.mk H
       clear H
       have p293 : 0 ≤ (x13_1 : Int) := of_decide_eq_true (by first | (with_reducible assumption) | assumption)
       have q293 : x13_1 < (l0.length : Int) := of_decide_eq_true (by first | (with_reducible assumption) | assumption)
       obtain ⟨ad293, A293_1, c293_1, A293_2, c293_2, A293_3, c293_3, A293_4, c293_4, e293, hx293_0, hx293_1, hx293_2, hx293_3, hx293_4, hl293_1, hi293_1, hl293_2, hi293_2, hl293_3, hi293_3, hl293_4, hi293_4⟩ := at_T49 HR0.out x13_1 p293 q293
       cases e293
       replace hx293_0 := (HB.out.cell (World.block_lt_of_cell? w _ hx293_0)).trans hx293_0
       replace hx293_1 := (HB.out.cell (World.block_lt_of_cell? w _ hx293_1)).trans hx293_1
       replace hx293_2 := (HB.out.cell (World.block_lt_of_cell? w _ hx293_2)).trans hx293_2
       replace hx293_3 := (HB.out.cell (World.block_lt_of_cell? w _ hx293_3)).trans hx293_3
       replace hx293_4 := (HB.out.cell (World.block_lt_of_cell? w _ hx293_4)).trans hx293_4
       have HR293_1 := Aside0.mk hi293_1
       have HC293_1 := Aside0.mk hl293_1
       clear hi293_1 hl293_1
       have HR293_2 := Aside0.mk hi293_2
       have HC293_2 := Aside0.mk hl293_2
       clear hi293_2 hl293_2
       have HR293_3 := Aside0.mk hi293_3
       have HC293_3 := Aside0.mk hl293_3
       clear hi293_3 hl293_3
       have HR293_4 := Aside0.mk hi293_4
       have HC293_4 := Aside0.mk hl293_4
       clear hi293_4 hl293_4
       replace p293 := eq_true p293
       replace q293 := eq_true q293
       go_wp2_with (first | ((with_reducible refine gate_dst (N := 7) rfl ?_); refine box_event ?hg (N := 7) ?hd (cs := #[.string (⟨#[]⟩ : ByteArray), .slice none 0 0, .slice none 0 0, .slice none 0 0, .slice none 0 0]) (t := 72) ?hr ?_; (case hd => rfl); (case hg => rfl); (case hr => first | (go_simp; done) | (go_simp; rfl)); intro gb294 hg w8 hbox hb; have n0_ := Aside0.mk (Kd.R_below (by (with_reducible repeat (first | apply Kd.R_alloc | apply Kd.R_drewN | apply Kd.R_drew)); exact HO_5.out) hb); have n1_ := Aside0.mk (below_step (by repeat (first | (with_reducible first | exact HB.out | apply below_alloc | apply pw_below_drewN | apply below_drew1) | exact HB.out)) hb); have n2_ := Aside0.mk (hbox); have n3_ := Aside0.mk ((by rw [hg]; exact (below_size (by repeat (first | (with_reducible first | exact HB.out | apply below_alloc | apply pw_below_drewN | apply below_drew1) | exact HB.out))) : w.heap.size ≤ gb294)); have n4_ := Aside0.mk ((by rw [hg]; exact (below_size (by repeat (first | (with_reducible first | exact HB.out | apply below_alloc | apply pw_below_drewN | apply below_drew1) | exact HB.out))) : w.heap.size ≤ gb294)); clear HO_5; clear HB; have HO_5 := n0_; have HB := n1_; have BK294 := n2_; have GW294 := n3_; have GE294 := n4_; clear n0_ n1_ n2_ n3_ n4_; clear hb hbox hg; have hcz9_0 : w8.cell? ⟨gb294, 0, none⟩ = some (.string (⟨#[]⟩ : ByteArray)) := (blk_cell BK294.out 0).trans rfl; have hcz9_1 : w8.cell? ⟨gb294, 1, none⟩ = some (.slice none 0 0) := (blk_cell BK294.out 1).trans rfl; have hcz9_2 : w8.cell? ⟨gb294, 2, none⟩ = some (.slice none 0 0) := (blk_cell BK294.out 2).trans rfl; have hcz9_3 : w8.cell? ⟨gb294, 3, none⟩ = some (.slice none 0 0) := (blk_cell BK294.out 3).trans rfl; have hcz9_4 : w8.cell? ⟨gb294, 4, none⟩ = some (.slice none 0 0) := (blk_cell BK294.out 4).trans rfl; have hfz9_0 := blk_frozen BK294.out 0; have hfz9_1 := blk_frozen BK294.out 1; have hfz9_2 := blk_frozen BK294.out 2; have hfz9_3 := blk_frozen BK294.out 3; have hfz9_4 := blk_frozen BK294.out 4) | ((with_reducible refine gate_value (x := .tmp 18) rfl ?_); refine goesV_ (some 20) (.tmp 18) rfl rfl Tryz.func76 (by kernel_rfl) rfl #[.agg #[.string ((rd_T49 l0 x13_1).f0), .slice A293_1 ((rd_T49 l0 x13_1).f1).length c293_1, .slice A293_2 ((rd_T49 l0 x13_1).f2).length c293_2, .slice A293_3 ((rd_T49 l0 x13_1).f3).length c293_3, .slice A293_4 ((rd_T49 l0 x13_1).f4).length c293_4]] rfl (by (try simp only [List.map_toArray, List.map_cons, List.map_nil]); first | done | rfl | (simp only [List.length_drop, List.length_take]; rfl)) ?_; (with_reducible refine (scheme_Valid_1.calls ((rd_T49 l0 x13_1).f0) _ _ ((rd_T49 l0 x13_1).f1) _ _ ((rd_T49 l0 x13_1).f2) _ _ ((rd_T49 l0 x13_1).f3) _ _ ((rd_T49 l0 x13_1).f4) t295 _ ?side1 ?side2 ?side3 ?side4 ?side5 ?side6 ?side7 ?side8 A6.out).mono ?_); (case side1 => exact Kd.C_below HR293_1.out (by repeat (first | (with_reducible first | exact HB.out | apply below_alloc | apply pw_below_drewN | apply below_drew1 | refine below_set ?_ GE294.out) | exact HB.out))); (case side2 => exact HC293_1.out); (case side3 => exact Kd.C_below HR293_2.out (by repeat (first | (with_reducible first | exact HB.out | apply below_alloc | apply pw_below_drewN | apply below_drew1 | refine below_set ?_ GE294.out) | exact HB.out))); (case side4 => exact HC293_2.out); (case side5 => exact Kd.C_below HR293_3.out (by repeat (first | (with_reducible first | exact HB.out | apply below_alloc | apply pw_below_drewN | apply below_drew1 | refine below_set ?_ GE294.out) | exact HB.out))); (case side6 => exact HC293_3.out); (case side7 => exact Kd.C_below HR293_4.out (by repeat (first | (with_reducible first | exact HB.out | apply below_alloc | apply pw_below_drewN | apply below_drew1 | refine below_set ?_ GE294.out) | exact HB.out))); (case side8 => exact HC293_4.out); rintro e w10 ⟨rfl, hb⟩; refine ⟨_, rfl, ?_⟩; have n0_ := Aside0.mk (Kd.R_below (by (with_reducible repeat (first | apply Kd.R_alloc | apply Kd.R_drewN | apply Kd.R_drew)); exact (Kd.R_mono (Kd.R_far (p := ⟨gb294, 4, none⟩) (Kd.R_far (p := ⟨gb294, 3, none⟩) (Kd.R_far (p := ⟨gb294, 2, none⟩) (Kd.R_far (p := ⟨gb294, 1, none⟩) (Kd.R_far (p := ⟨gb294, 0, none⟩) (Kd.R_types HO_5.out BK294.out (by decide)) (fun _ hk => hk.2) (.string ((rd_T49 l0 x13_1).f0))) (fun _ hk => hk.2) (.slice A293_1 ((rd_T49 l0 x13_1).f1).length c293_1)) (fun _ hk => hk.2) (.slice A293_2 ((rd_T49 l0 x13_1).f2).length c293_2)) (fun _ hk => hk.2) (.slice A293_3 ((rd_T49 l0 x13_1).f3).length c293_3)) (fun _ hk => hk.2) (.slice A293_4 ((rd_T49 l0 x13_1).f4).length c293_4)) (fun _ h_ => h_.1))) hb); have n1_ := Aside0.mk (blk_below (g := gb294) (o := .cells #[.string ((rd_T49 l0 x13_1).f0), .slice A293_1 ((rd_T49 l0 x13_1).f1).length c293_1, .slice A293_2 ((rd_T49 l0 x13_1).f2).length c293_2, .slice A293_3 ((rd_T49 l0 x13_1).f3).length c293_3, .slice A293_4 ((rd_T49 l0 x13_1).f4).length c293_4] 72 (0, 0)) (by (with_reducible repeat (first | refine blk_drewN ?_ _ | refine blk_drew ?_ | refine blk_alloc ?_ _)); refine blk_put (cs := #[.string ((rd_T49 l0 x13_1).f0), .slice A293_1 ((rd_T49 l0 x13_1).f1).length c293_1, .slice A293_2 ((rd_T49 l0 x13_1).f2).length c293_2, .slice A293_3 ((rd_T49 l0 x13_1).f3).length c293_3, .slice none 0 0]) ?_ 4 _ rfl; (with_reducible repeat (first | refine blk_drewN ?_ _ | refine blk_drew ?_ | refine blk_alloc ?_ _)); refine blk_put (cs := #[.string ((rd_T49 l0 x13_1).f0), .slice A293_1 ((rd_T49 l0 x13_1).f1).length c293_1, .slice A293_2 ((rd_T49 l0 x13_1).f2).length c293_2, .slice none 0 0, .slice none 0 0]) ?_ 3 _ rfl; (with_reducible repeat (first | refine blk_drewN ?_ _ | refine blk_drew ?_ | refine blk_alloc ?_ _)); refine blk_put (cs := #[.string ((rd_T49 l0 x13_1).f0), .slice A293_1 ((rd_T49 l0 x13_1).f1).length c293_1, .slice none 0 0, .slice none 0 0, .slice none 0 0]) ?_ 2 _ rfl; (with_reducible repeat (first | refine blk_drewN ?_ _ | refine blk_drew ?_ | refine blk_alloc ?_ _)); refine blk_put (cs := #[.string ((rd_T49 l0 x13_1).f0), .slice none 0 0, .slice none 0 0, .slice none 0 0, .slice none 0 0]) ?_ 1 _ rfl; (with_reducible repeat (first | refine blk_drewN ?_ _ | refine blk_drew ?_ | refine blk_alloc ?_ _)); refine blk_put (cs := #[.string (⟨#[]⟩ : ByteArray), .slice none 0 0, .slice none 0 0, .slice none 0 0, .slice none 0 0]) ?_ 0 _ rfl; (with_reducible repeat (first | refine blk_drewN ?_ _ | refine blk_drew ?_ | refine blk_alloc ?_ _)); exact BK294.out) hb); have n2_ := Aside0.mk (below_step (by repeat (first | (with_reducible first | exact HB.out | apply below_alloc | apply pw_below_drewN | apply below_drew1 | refine below_set ?_ GE294.out) | exact HB.out)) hb); clear HO_5; clear BK294; clear HB; have HO_5 := n0_; have BK294 := n1_; have HB := n2_; clear n0_ n1_ n2_; (try clear hb); (try clear hb2); (try clear hk); (try clear hi)) | ((with_reducible refine gate_builtin (b := .append) (xs := #[.tmp 17, .tmp 21]) rfl ?_); at_builtin; refine Kd.R_append Kd.string (w0 := w) w.heap.size rfl (.tmp 17) (.tmp 21) 103 9 (.string ⟨#[]⟩) 16 rfl Tryz.underlying103 info9 rfl (by decide) (by omega) u5 x5_1 t295 [.string t295] (fun _ => True) (fun _ => False) rfl rfl ?aP (fun _ hk => hk.elim) ?aF ?aO ?aB ?aS ?aL ?_; (case aP => exact rfl); (case aB => exact (by repeat (first | (with_reducible first | exact HB.out | apply below_alloc | apply pw_below_drewN | apply below_drew1 | refine below_set ?_ GE294.out) | exact HB.out))); (case aF => exact (fun _ _ => trivial)); (case aO => exact (by (with_reducible repeat (first | apply Kd.R_alloc | apply Kd.R_drewN | apply Kd.R_drew)); exact HO_5.out)); (case aS => exact (below_size (by repeat (first | (with_reducible first | exact HB.out | apply below_alloc | apply pw_below_drewN | apply below_drew1 | refine below_set ?_ GE294.out) | exact HB.out)))); (case aL => have := LMc7.out; omega); intro v297 w11 ho hb hg hat; rw [← Ny296.out] at ho; have n0_ := Aside0.mk (blk_grown (g := gb294) (o := .cells #[.string ((rd_T49 l0 x13_1).f0), .slice A293_1 ((rd_T49 l0 x13_1).f1).length c293_1, .slice A293_2 ((rd_T49 l0 x13_1).f2).length c293_2, .slice A293_3 ((rd_T49 l0 x13_1).f3).length c293_3, .slice A293_4 ((rd_T49 l0 x13_1).f4).length c293_4] 72 (0, 0)) (by (with_reducible repeat (first | refine blk_drewN ?_ _ | refine blk_drew ?_ | refine blk_alloc ?_ _)); exact BK294.out) hg (Kd.R_ne HO_5.out BK294.out (by decide))); have n1_ := Aside0.mk (hb); have n2_ := Aside0.mk (ho); clear BK294; clear HB; clear HO_5; have BK294 := n0_; have HB := n1_; have HO298 := n2_; clear n0_ n1_ n2_; clear ho hb hg hat))
       go_roundg k1
       case measure => have := HK1.out; omega
       case rel => exact ⟨(y296), (wrap64 (x13_1 + 1)), (by first | rfl | (simp; done) | (simp [*]; done)), H', ⟨by have := HK1.out; omega⟩, ⟨by (with_reducible repeat (first | apply Kd.R_alloc | apply Kd.R_drewN | apply Kd.R_drew)); exact HO298.out⟩, ⟨by repeat (first | (with_reducible first | exact HB.out | apply below_alloc | apply pw_below_drewN | apply below_drew1 | refine below_set ?_ GE294.out) | exact HB.out)⟩⟩
      ·rw [if_neg c7] at H
       exact absurd H (by simp)
     ·rw [if_neg c5] at H
      exact absurd H (by simp)
    ·rw [if_neg c4] at H
     exact absurd H (by simp)
   ·rw [if_neg c3] at H
    have c3b0 : decide (x13_1 < (l0.length : Int)) = false := decide_eq_false c3
    clear c3
    obtain rfl := Option.some.inj H
    go_wp2
    go_ret
    exact ⟨_, by first | rfl | (simp [errW_none, errW_some] <;> rfl) | (simp [*, errW_none, errW_some] <;> rfl), by (with_reducible repeat (first | apply Kd.R_alloc | apply Kd.R_drewN | apply Kd.R_drew)); exact HO_5.out, by repeat (first | (with_reducible first | exact HB.out | apply below_alloc | apply pw_below_drewN | apply below_drew1) | exact HB.out)⟩
def scheme_mapColName.l0 : Nat → List ByteArray → List (S78) → Int → Int → Option (List ByteArray)
 | 0, _, _, _, _ => none
 | k + 1, x5, x11, x12, x13 => if x13 < x12 then (if 0 ≤ x13 then (if x13 < (x11.length : Int) then ((scheme_validTable_1.f ((rd_T78 x11 x13).f0) ((rd_T78 x11 x13).f1) ((rd_T78 x11 x13).f2) ((rd_T78 x11 x13).f3) ((rd_T78 x11 x13).f4)).bind fun t270 => (if x5.length < 8796093022208 then (scheme_mapColName.l0 k (x5 ++ [t270]) x11 x12 (wrap64 (x13 + 1))) else (none))) else (none)) else (none)) else (some x5)
def scheme_mapColName.f (k : Nat) (l0 : List (S78)) (a1 : Int) : Option (List ByteArray) := if l0.length ≤ 17592186044416 then (scheme_mapColName.l0 k ([] : List ByteArray) l0 (l0.length : Int) 0) else none
set_option maxHeartbeats 8000000 in
set_option maxRecDepth 100000 in
theorem scheme_mapColName.calls (k : Nat) (A0 : Option Addr) (c0 : Nat) (l0 : List (S78)) (a1 : Int) (r : List ByteArray) (w : World) (hr0 : Kd.C k78 w A0 l0.length l0) (hc0 : l0.length ≤ c0) (h : scheme_mapColName.f k l0 a1 = some r) :
  Calls Tryz.prog 128 #[.slice A0 l0.length c0, .func (.func 129) #[] #[]] w fun e w' => ∃ v0_ : Value, e = .returned (v0_) ∧ Kd.R Kd.string 9 w' w.heap.size (fun _ => True) v0_ r ∧ Below w.heap.size w w' := by
 have hu78 := Tryz.underlying83
 have HR0 := Aside0.mk hr0
 have HC0 := Aside0.mk hc0
 clear hr0 hc0
 have HB := Aside0.mk (Below.refl w.heap.size w)
 have hlen : l0.length ≤ 17592186044416 := by
  unfold scheme_mapColName.f at h
  split at h
  ·assumption
  ·cases h
 have H : (scheme_mapColName.l0 k ([] : List ByteArray) l0 (l0.length : Int) 0) = some r := by
  unfold scheme_mapColName.f at h
  rw [if_pos hlen] at h
  exact h
 clear h
 obtain ⟨i0, hi0, hz0, hz1, hz2⟩ := info_parts (P := Tryz.prog) (e := 9) (z := .string ⟨#[]⟩) (size := 1) (bytes := 16) (by kernel_rfl)
 obtain ⟨W1, hmk0, hown0, hgr0⟩ := run_make_own w w.heap.size 103 9 i0 _ 1 Tryz.underlying103 hi0 hz0 hz1 .i64 .i64 l0.length (by rw [hz2]; omega) (by unfold maxLen; omega) (Nat.le_refl _)
 have HB1 : Aside0 (Below w.heap.size w W1) := ⟨(Below.refl _ _).grown hgr0 (Nat.le_refl _) (fun j hj => by cases hj)⟩
 have HOW := Aside0.mk hown0
 clear HB hown0 hgr0 hi0 hz0 hz1 hz2
 have HB := HB1
 have H' := Aside0.mk H
 clear H
 go_enter Tryz.func128, Tryz.ntmps128
 go_wp2
 go_loopg [5, 13] k (fun kq v5 v13 w' => ∃ (x5_1 : List ByteArray) (x13_1 : Int), v13 = .int .i64 x13_1 ∧ Aside0 (scheme_mapColName.l0 kq x5_1 l0 (l0.length : Int) x13_1 = some r) ∧ Aside0 (kq ≤ k) ∧ Aside0 (Kd.R Kd.string 9 w' w.heap.size (fun _ => True) v5 x5_1) ∧ Aside0 (Below w.heap.size w w'))
 case atStart => exact ⟨(([] : List ByteArray)), (0), (by first | rfl | (simp; done) | (simp [*]; done)), H', ⟨Nat.le_refl _⟩, ⟨by first | exact ⟨fun _ _ => trivial, [], HOW.out, Reps.none _ _⟩ | exact Kd.R_nil _ _ _ _ _ | exact Kd.N_nil _ _ _ _ _ | exact Kd.V_nil _ _ _ _ _ | exact Kd.Q_nil _ _ _ _ _ | exact Kd.S_nil _ _ _ _ _⟩, ⟨by repeat (first | (with_reducible first | exact HB.out | apply below_alloc | apply pw_below_drewN | apply below_drew1) | exact HB.out)⟩⟩
 case round =>
  clear H'
  try clear p2
  obtain ⟨x5_1, x13_1, rfl, HA, HK1, HO_5, HB⟩ := hrel
  cases gk with
  | zero => exact absurd HA.out (by simp [scheme_mapColName.l0])
  | succ k1 =>
   have H := HA.out
   clear HA
   simp only [scheme_mapColName.l0] at H
   by_cases c3 : x13_1 < (l0.length : Int)
   ·rw [if_pos c3] at H
    have c3b0 : decide (x13_1 < (l0.length : Int)) = true := decide_eq_true c3
    clear c3
    by_cases c4 : 0 ≤ x13_1
    ·rw [if_pos c4] at H
     have c4b0 : decide (0 ≤ x13_1) = true := decide_eq_true c4
     clear c4
     by_cases c5 : x13_1 < (l0.length : Int)
     ·rw [if_pos c5] at H
      have c5b0 : decide (x13_1 < (l0.length : Int)) = true := decide_eq_true c5
      clear c5
      replace H := Option.bind_eq_some_iff.mp H
      obtain ⟨t270, A60, H⟩ := H
      replace H : (if x5_1.length < 8796093022208 then (scheme_mapColName.l0 k1 (x5_1 ++ [t270]) l0 (l0.length : Int) (wrap64 (x13_1 + 1))) else (none)) = some r := H
      have A6 := Aside0.mk A60
      clear A60
      by_cases c7 : x5_1.length < 8796093022208
      ·rw [if_pos c7] at H
       have LMc7 := Aside0.mk c7
       clear c7
       obtain ⟨y271, hy271⟩ : ∃ y_ : List ByteArray, y_ = (x5_1 ++ [t270]) := ⟨_, rfl⟩
       replace H : (scheme_mapColName.l0 k1 y271 l0 (l0.length : Int) (wrap64 (x13_1 + 1))) = some r := by first | (rw [hy271]; with_reducible exact H) | (have H2_ := (Option.bind_some _ _).symm.trans H; rw [hy271]; with_reducible exact H2_) | (have H2_ := (Option.bind_some _ _).symm.trans H; with_reducible exact H2_) | with_reducible exact H | (rw [hy271]; exact H) | exact H
       have Ny271 := Aside0.mk hy271
       clear hy271
       have H' := Aside0.mk H
       clear H
       have p268 : 0 ≤ (x13_1 : Int) := of_decide_eq_true (by first | (with_reducible assumption) | assumption)
       have q268 : x13_1 < (l0.length : Int) := of_decide_eq_true (by first | (with_reducible assumption) | assumption)
       obtain ⟨ad268, e268, hx268_0, hx268_1, hx268_2, hx268_3, hx268_4⟩ := at_T78 HR0.out x13_1 p268 q268
       cases e268
       replace hx268_0 := (HB.out.cell (World.block_lt_of_cell? w _ hx268_0)).trans hx268_0
       replace hx268_1 := (HB.out.cell (World.block_lt_of_cell? w _ hx268_1)).trans hx268_1
       replace hx268_2 := (HB.out.cell (World.block_lt_of_cell? w _ hx268_2)).trans hx268_2
       replace hx268_3 := (HB.out.cell (World.block_lt_of_cell? w _ hx268_3)).trans hx268_3
       replace hx268_4 := (HB.out.cell (World.block_lt_of_cell? w _ hx268_4)).trans hx268_4
       replace p268 := eq_true p268
       replace q268 := eq_true q268
       go_wp2_with (first | ((with_reducible refine gate_dst (N := 7) rfl ?_); refine box_event ?hg (N := 7) ?hd (cs := #[.string (⟨#[]⟩ : ByteArray), .int .u8 0, .bool false, .int .i64 0, .int .i64 0]) (t := 83) ?hr ?_; (case hd => rfl); (case hg => rfl); (case hr => first | (go_simp; done) | (go_simp; rfl)); intro gb269 hg w8 hbox hb; have n0_ := Aside0.mk (Kd.R_below (by (with_reducible repeat (first | apply Kd.R_alloc | apply Kd.R_drewN | apply Kd.R_drew)); exact HO_5.out) hb); have n1_ := Aside0.mk (below_step (by repeat (first | (with_reducible first | exact HB.out | apply below_alloc | apply pw_below_drewN | apply below_drew1) | exact HB.out)) hb); have n2_ := Aside0.mk (hbox); have n3_ := Aside0.mk ((by rw [hg]; exact (below_size (by repeat (first | (with_reducible first | exact HB.out | apply below_alloc | apply pw_below_drewN | apply below_drew1) | exact HB.out))) : w.heap.size ≤ gb269)); have n4_ := Aside0.mk ((by rw [hg]; exact (below_size (by repeat (first | (with_reducible first | exact HB.out | apply below_alloc | apply pw_below_drewN | apply below_drew1) | exact HB.out))) : w.heap.size ≤ gb269)); clear HO_5; clear HB; have HO_5 := n0_; have HB := n1_; have BK269 := n2_; have GW269 := n3_; have GE269 := n4_; clear n0_ n1_ n2_ n3_ n4_; clear hb hbox hg; have hcz9_0 : w8.cell? ⟨gb269, 0, none⟩ = some (.string (⟨#[]⟩ : ByteArray)) := (blk_cell BK269.out 0).trans rfl; have hcz9_1 : w8.cell? ⟨gb269, 1, none⟩ = some (.int .u8 0) := (blk_cell BK269.out 1).trans rfl; have hcz9_2 : w8.cell? ⟨gb269, 2, none⟩ = some (.bool false) := (blk_cell BK269.out 2).trans rfl; have hcz9_3 : w8.cell? ⟨gb269, 3, none⟩ = some (.int .i64 0) := (blk_cell BK269.out 3).trans rfl; have hcz9_4 : w8.cell? ⟨gb269, 4, none⟩ = some (.int .i64 0) := (blk_cell BK269.out 4).trans rfl; have hfz9_0 := blk_frozen BK269.out 0; have hfz9_1 := blk_frozen BK269.out 1; have hfz9_2 := blk_frozen BK269.out 2; have hfz9_3 := blk_frozen BK269.out 3; have hfz9_4 := blk_frozen BK269.out 4) | ((with_reducible refine gate_value (x := .tmp 18) rfl ?_); refine goesV_ (some 20) (.tmp 18) rfl rfl Tryz.func129 (by kernel_rfl) rfl #[.agg #[.string ((rd_T78 l0 x13_1).f0), .int .u8 ((rd_T78 l0 x13_1).f1), .bool ((rd_T78 l0 x13_1).f2), .int .i64 ((rd_T78 l0 x13_1).f3), .int .i64 ((rd_T78 l0 x13_1).f4)]] rfl (by (try simp only [List.map_toArray, List.map_cons, List.map_nil]); first | done | rfl | (simp only [List.length_drop, List.length_take]; rfl)) ?_; (with_reducible refine (scheme_validTable_1.calls ((rd_T78 l0 x13_1).f0) ((rd_T78 l0 x13_1).f1) ((rd_T78 l0 x13_1).f2) ((rd_T78 l0 x13_1).f3) ((rd_T78 l0 x13_1).f4) t270 _ A6.out).mono ?_); rintro e w10 ⟨rfl, hb⟩; refine ⟨_, rfl, ?_⟩; have n0_ := Aside0.mk (Kd.R_below (by (with_reducible repeat (first | apply Kd.R_alloc | apply Kd.R_drewN | apply Kd.R_drew)); exact (Kd.R_mono (Kd.R_far (p := ⟨gb269, 4, none⟩) (Kd.R_far (p := ⟨gb269, 3, none⟩) (Kd.R_far (p := ⟨gb269, 2, none⟩) (Kd.R_far (p := ⟨gb269, 1, none⟩) (Kd.R_far (p := ⟨gb269, 0, none⟩) (Kd.R_types HO_5.out BK269.out (by decide)) (fun _ hk => hk.2) (.string ((rd_T78 l0 x13_1).f0))) (fun _ hk => hk.2) (.int .u8 ((rd_T78 l0 x13_1).f1))) (fun _ hk => hk.2) (.bool ((rd_T78 l0 x13_1).f2))) (fun _ hk => hk.2) (.int .i64 ((rd_T78 l0 x13_1).f3))) (fun _ hk => hk.2) (.int .i64 ((rd_T78 l0 x13_1).f4))) (fun _ h_ => h_.1))) hb); have n1_ := Aside0.mk (blk_below (g := gb269) (o := .cells #[.string ((rd_T78 l0 x13_1).f0), .int .u8 ((rd_T78 l0 x13_1).f1), .bool ((rd_T78 l0 x13_1).f2), .int .i64 ((rd_T78 l0 x13_1).f3), .int .i64 ((rd_T78 l0 x13_1).f4)] 83 (0, 0)) (by (with_reducible repeat (first | refine blk_drewN ?_ _ | refine blk_drew ?_ | refine blk_alloc ?_ _)); refine blk_put (cs := #[.string ((rd_T78 l0 x13_1).f0), .int .u8 ((rd_T78 l0 x13_1).f1), .bool ((rd_T78 l0 x13_1).f2), .int .i64 ((rd_T78 l0 x13_1).f3), .int .i64 0]) ?_ 4 _ rfl; (with_reducible repeat (first | refine blk_drewN ?_ _ | refine blk_drew ?_ | refine blk_alloc ?_ _)); refine blk_put (cs := #[.string ((rd_T78 l0 x13_1).f0), .int .u8 ((rd_T78 l0 x13_1).f1), .bool ((rd_T78 l0 x13_1).f2), .int .i64 0, .int .i64 0]) ?_ 3 _ rfl; (with_reducible repeat (first | refine blk_drewN ?_ _ | refine blk_drew ?_ | refine blk_alloc ?_ _)); refine blk_put (cs := #[.string ((rd_T78 l0 x13_1).f0), .int .u8 ((rd_T78 l0 x13_1).f1), .bool false, .int .i64 0, .int .i64 0]) ?_ 2 _ rfl; (with_reducible repeat (first | refine blk_drewN ?_ _ | refine blk_drew ?_ | refine blk_alloc ?_ _)); refine blk_put (cs := #[.string ((rd_T78 l0 x13_1).f0), .int .u8 0, .bool false, .int .i64 0, .int .i64 0]) ?_ 1 _ rfl; (with_reducible repeat (first | refine blk_drewN ?_ _ | refine blk_drew ?_ | refine blk_alloc ?_ _)); refine blk_put (cs := #[.string (⟨#[]⟩ : ByteArray), .int .u8 0, .bool false, .int .i64 0, .int .i64 0]) ?_ 0 _ rfl; (with_reducible repeat (first | refine blk_drewN ?_ _ | refine blk_drew ?_ | refine blk_alloc ?_ _)); exact BK269.out) hb); have n2_ := Aside0.mk (below_step (by repeat (first | (with_reducible first | exact HB.out | apply below_alloc | apply pw_below_drewN | apply below_drew1 | refine below_set ?_ GE269.out) | exact HB.out)) hb); clear HO_5; clear BK269; clear HB; have HO_5 := n0_; have BK269 := n1_; have HB := n2_; clear n0_ n1_ n2_; (try clear hb); (try clear hb2); (try clear hk); (try clear hi)) | ((with_reducible refine gate_builtin (b := .append) (xs := #[.tmp 17, .tmp 21]) rfl ?_); at_builtin; refine Kd.R_append Kd.string (w0 := w) w.heap.size rfl (.tmp 17) (.tmp 21) 103 9 (.string ⟨#[]⟩) 16 rfl Tryz.underlying103 info9 rfl (by decide) (by omega) u5 x5_1 t270 [.string t270] (fun _ => True) (fun _ => False) rfl rfl ?aP (fun _ hk => hk.elim) ?aF ?aO ?aB ?aS ?aL ?_; (case aP => exact rfl); (case aB => exact (by repeat (first | (with_reducible first | exact HB.out | apply below_alloc | apply pw_below_drewN | apply below_drew1 | refine below_set ?_ GE269.out) | exact HB.out))); (case aF => exact (fun _ _ => trivial)); (case aO => exact (by (with_reducible repeat (first | apply Kd.R_alloc | apply Kd.R_drewN | apply Kd.R_drew)); exact HO_5.out)); (case aS => exact (below_size (by repeat (first | (with_reducible first | exact HB.out | apply below_alloc | apply pw_below_drewN | apply below_drew1 | refine below_set ?_ GE269.out) | exact HB.out)))); (case aL => have := LMc7.out; omega); intro v272 w11 ho hb hg hat; rw [← Ny271.out] at ho; have n0_ := Aside0.mk (blk_grown (g := gb269) (o := .cells #[.string ((rd_T78 l0 x13_1).f0), .int .u8 ((rd_T78 l0 x13_1).f1), .bool ((rd_T78 l0 x13_1).f2), .int .i64 ((rd_T78 l0 x13_1).f3), .int .i64 ((rd_T78 l0 x13_1).f4)] 83 (0, 0)) (by (with_reducible repeat (first | refine blk_drewN ?_ _ | refine blk_drew ?_ | refine blk_alloc ?_ _)); exact BK269.out) hg (Kd.R_ne HO_5.out BK269.out (by decide))); have n1_ := Aside0.mk (hb); have n2_ := Aside0.mk (ho); clear BK269; clear HB; clear HO_5; have BK269 := n0_; have HB := n1_; have HO273 := n2_; clear n0_ n1_ n2_; clear ho hb hg hat))
       go_roundg k1
       case measure => have := HK1.out; omega
       case rel => exact ⟨(y271), (wrap64 (x13_1 + 1)), (by first | rfl | (simp; done) | (simp [*]; done)), H', ⟨by have := HK1.out; omega⟩, ⟨by (with_reducible repeat (first | apply Kd.R_alloc | apply Kd.R_drewN | apply Kd.R_drew)); exact HO273.out⟩, ⟨by repeat (first | (with_reducible first | exact HB.out | apply below_alloc | apply pw_below_drewN | apply below_drew1 | refine below_set ?_ GE269.out) | exact HB.out)⟩⟩
      ·rw [if_neg c7] at H
       exact absurd H (by simp)
     ·rw [if_neg c5] at H
      exact absurd H (by simp)
    ·rw [if_neg c4] at H
     exact absurd H (by simp)
   ·rw [if_neg c3] at H
    have c3b0 : decide (x13_1 < (l0.length : Int)) = false := decide_eq_false c3
    clear c3
    obtain rfl := Option.some.inj H
    go_wp2
    go_ret
    exact ⟨_, by first | rfl | (simp [errW_none, errW_some] <;> rfl) | (simp [*, errW_none, errW_some] <;> rfl), by (with_reducible repeat (first | apply Kd.R_alloc | apply Kd.R_drewN | apply Kd.R_drew)); exact HO_5.out, by repeat (first | (with_reducible first | exact HB.out | apply below_alloc | apply pw_below_drewN | apply below_drew1) | exact HB.out)⟩
end Go.Proofs.YthgfdnffnbclpaaGreatDoor.PAll
namespace Go.Proofs.YthgfdnffnbclpaaGreatDoor.PAll
open Go.RowKit Go.Proofs.YthgfdnffnbclpaaGreatDoorW.PrintWords Go.Proofs.YthgfdnffnbclpaaGreatDoorW.PrintLast Go.Proofs.YthgfdnffnbclpaaGreatDoorW.PrintMore
mutual
def scheme_validTable.j0 : Nat → List (S49) → Bool → ByteArray → List (S78) → List (List Int) → List (S75) → List Int → Option (Bool)
 | 0, _, _, _, _, _, _, _ => none
 | k + 1, x2, x39, x281000, x281001, x281002, x281003, x281004 => if x39 = true then (some false) else ((scheme_mapColName.f k x281001 0).bind fun t283 => ((scheme_distinct_string.f t283).bind fun t286 => (if t286 = true then (scheme_validTable.l0 k x2 x281001 (x281001.length : Int) 0 x281000 x281001 x281002 x281003 x281004) else (some false))))
def scheme_validTable.l0 : Nat → List (S49) → List (S78) → Int → Int → ByteArray → List (S78) → List (List Int) → List (S75) → List Int → Option (Bool)
 | 0, _, _, _, _, _, _, _, _, _ => none
 | k + 1, x2, x46, x47, x48, x281000, x281001, x281002, x281003, x281004 => if x48 < x47 then (if 0 ≤ x48 then (if x48 < (x46.length : Int) then ((scheme_validColumn.f k ((rd_T78 x46 x48).f0) ((rd_T78 x46 x48).f1) ((rd_T78 x46 x48).f2) ((rd_T78 x46 x48).f3) ((rd_T78 x46 x48).f4)).bind fun t289 => (if t289 = true then (scheme_validTable.l0 k x2 x46 x47 (wrap64 (x48 + 1)) x281000 x281001 x281002 x281003 x281004) else (some false))) else (none)) else (none)) else (scheme_validTable.l1 k x2 x281002 (x281002.length : Int) 0 x281000 x281001 x281002 x281003 x281004)
def scheme_validTable.l1 : Nat → List (S49) → List (List Int) → Int → Int → ByteArray → List (S78) → List (List Int) → List (S75) → List Int → Option (Bool)
 | 0, _, _, _, _, _, _, _, _, _ => none
 | k + 1, x2, x57, x58, x59, x281000, x281001, x281002, x281003, x281004 => if x59 < x58 then (if 0 ≤ x59 then (if x59 < (x57.length : Int) then (if ((rd_L6 x57 x59).length : Int) = 0 then (some false) else ((scheme_rising.f k (rd_L6 x57 x59) (x281001.length : Int)).bind fun t291 => (if t291 = true then (scheme_validTable.l1 k x2 x57 x58 (wrap64 (x59 + 1)) x281000 x281001 x281002 x281003 x281004) else (some false)))) else (none)) else (none)) else ((scheme_anyBadRef.f k x281003 x2 x281000 x281001 x281002 x281003 x281004).bind fun t292 => (some (!t292)))
end
def scheme_validTable.f (k : Nat) (l0 : List (S49)) (a1_0 : ByteArray) (l1_1 : List (S78)) (l1_2 : List (List Int)) (l1_3 : List (S75)) (l1_4 : List Int) : Option (Bool) := (lex_IsName.f k a1_0).bind fun t281 => (if t281 = true then (if (l1_1.length : Int) > 8 then (scheme_validTable.j0 k l0 true a1_0 l1_1 l1_2 l1_3 l1_4) else (if (l1_2.length : Int) > 4 then (scheme_validTable.j0 k l0 true a1_0 l1_1 l1_2 l1_3 l1_4) else (if (l1_3.length : Int) > 4 then (scheme_validTable.j0 k l0 true a1_0 l1_1 l1_2 l1_3 l1_4) else ((scheme_rising.f k l1_4 (l1_1.length : Int)).bind fun t282 => (scheme_validTable.j0 k l0 (!t282) a1_0 l1_1 l1_2 l1_3 l1_4))))) else (scheme_validTable.j0 k l0 true a1_0 l1_1 l1_2 l1_3 l1_4))
theorem drawn_below {B : Nat} {w w' : World} (h : Drawn0 w w') : Below B w w' := by
 obtain ⟨m, rfl⟩ := h
 exact pw_below_drewN (Below.refl _ _) m
set_option maxRecDepth 100000 in
theorem anyBad_walk (k : Nat) (A0 : Option Addr) (c0 : Nat) (l0 : List S75) (A1 : Option Addr) (c1 : Nat) (l1 : List S49) (a2_0 : ByteArray) (A2_1 : Option Addr) (c2_1 : Nat) (l2_1 : List S78) (A2_2 : Option Addr) (c2_2 : Nat) (l2_2 : List (List Int)) (A2_3 : Option Addr) (c2_3 : Nat) (l2_3 : List S75) (A2_4 : Option Addr) (c2_4 : Nat) (l2_4 : List Int) (r : Bool) (gb gt : Nat) (w : World)
  (hr0 : Kd.C k75 w A0 l0.length l0) (hc0 : l0.length ≤ c0) (hr1 : Kd.C k49 w A1 l1.length l1) (hc1 : l1.length ≤ c1) (hr2_1 : Kd.C k78 w A2_1 l2_1.length l2_1) (hc2_1 : l2_1.length ≤ c2_1) (hr2_2 : Kd.C (Kd.slice 3 (Kd.int .i64)) w A2_2 l2_2.length l2_2) (hc2_2 : l2_2.length ≤ c2_2) (hr2_3 : Kd.C k75 w A2_3 l2_3.length l2_3) (hc2_3 : l2_3.length ≤ c2_3) (hr2_4 : Kd.C (Kd.int .i64) w A2_4 l2_4.length l2_4) (hc2_4 : l2_4.length ≤ c2_4)
  (hb : w.heap[gb]? = some (.cells #[.slice A1 l1.length c1] 23 (0, 0))) (ht : w.heap[gt]? = some (.cells #[.string a2_0, .slice A2_1 l2_1.length c2_1, .slice A2_2 l2_2.length c2_2, .slice A2_3 l2_3.length c2_3, .slice A2_4 l2_4.length c2_4] 72 (0, 0)))
  (h : scheme_anyBadRef.f k l0 l1 a2_0 l2_1 l2_2 l2_3 l2_4 = some r) :
  Calls Tryz.prog 131 #[.slice A0 l0.length c0, .func (.func 132) #[] #[.pointer (some ⟨gb, 0, none⟩), .pointer (some ⟨gt, 0, none⟩)]] w fun e w' => e = .returned (.bool r) ∧ Below w.heap.size w w' := by
 unfold scheme_anyBadRef.f at h
 obtain ⟨i, hv, hr⟩ := Option.bind_eq_some_iff.mp h
 obtain rfl := Option.some.inj hr
 have HV := Aside0.mk (idxBad_walk k A0 c0 l0 A1 c1 l1 a2_0 A2_1 c2_1 l2_1 A2_2 c2_2 l2_2 A2_3 c2_3 l2_3 A2_4 c2_4 l2_4 i gb gt w hr0 hc0 hr1 hc1 hr2_1 hc2_1 hr2_2 hc2_2 hr2_3 hc2_3 hr2_4 hc2_4 hb ht hv)
 clear hr0 hr1 hr2_1 hr2_2 hr2_3 hr2_4 h hv hr hb ht
 go_enter Tryz.func131, Tryz.ntmps131
 go_wp2_with (go_at_call 160; refine HV.out.mono ?_; rintro e w1 ⟨rfl, hb1⟩)
 go_ret
 exact ⟨by first | rfl | (simp; done), hb1⟩
set_option maxHeartbeats 4000000 in
set_option maxRecDepth 100000 in
theorem scheme_validTable.calls (k : Nat) (A0 : Option Addr) (c0 : Nat) (l0 : List S49) (a1_0 : ByteArray) (A1_1 : Option Addr) (c1_1 : Nat) (l1_1 : List S78) (A1_2 : Option Addr) (c1_2 : Nat) (l1_2 : List (List Int)) (A1_3 : Option Addr) (c1_3 : Nat) (l1_3 : List S75) (A1_4 : Option Addr) (c1_4 : Nat) (l1_4 : List Int) (r : Bool) (w : World)
  (hr0 : Kd.C k49 w A0 l0.length l0) (hc0 : l0.length ≤ c0) (hr1_1 : Kd.C k78 w A1_1 l1_1.length l1_1) (hc1_1 : l1_1.length ≤ c1_1) (hr1_2 : Kd.C (Kd.slice 3 (Kd.int .i64)) w A1_2 l1_2.length l1_2) (hc1_2 : l1_2.length ≤ c1_2) (hr1_3 : Kd.C k75 w A1_3 l1_3.length l1_3) (hc1_3 : l1_3.length ≤ c1_3) (hr1_4 : Kd.C (Kd.int .i64) w A1_4 l1_4.length l1_4) (hc1_4 : l1_4.length ≤ c1_4)
  (h : scheme_validTable.f k l0 a1_0 l1_1 l1_2 l1_3 l1_4 = some r) (hL : LaidL w) :
  Calls Tryz.prog 77 #[.slice A0 l0.length c0, .agg #[.string a1_0, .slice A1_1 l1_1.length c1_1, .slice A1_2 l1_2.length c1_2, .slice A1_3 l1_3.length c1_3, .slice A1_4 l1_4.length c1_4]] w fun e w' => e = .returned (.bool r) ∧ Below w.heap.size w w' := by
 obtain ⟨E, hE⟩ : ∃ E, E = (w.alloc (Obj.cells #[.slice A0 l0.length c0] 23)).alloc (Obj.cells #[.string a1_0, .slice A1_1 l1_1.length c1_1, .slice A1_2 l1_2.length c1_2, .slice A1_3 l1_3.length c1_3, .slice A1_4 l1_4.length c1_4] 72) := ⟨_, rfl⟩
 obtain ⟨gb, hgb⟩ : ∃ g, g = w.heap.size := ⟨_, rfl⟩
 have HE : Aside0 (Below w.heap.size w E) := ⟨by rw [hE]; exact ((Below.refl _ _).alloc (Nat.le_refl _) _).alloc (by simp) _⟩
 have HGB : Aside0 (E.heap[gb]? = some (.cells #[.slice A0 l0.length c0] 23 (0, 0))) := ⟨by rw [hE, hgb, Go.Deep.blk_alloc_lt _ _ _ (by simp)]; exact Go.Deep.blk_alloc_new w _⟩
 have HGT : Aside0 (E.heap[gb + 1]? = some (.cells #[.string a1_0, .slice A1_1 l1_1.length c1_1, .slice A1_2 l1_2.length c1_2, .slice A1_3 l1_3.length c1_3, .slice A1_4 l1_4.length c1_4] 72 (0, 0))) := ⟨by rw [hE, hgb]; have := Go.Deep.blk_alloc_new (w.alloc (Obj.cells #[.slice A0 l0.length c0] 23)) (Obj.cells #[.string a1_0, .slice A1_1 l1_1.length c1_1, .slice A1_2 l1_2.length c1_2, .slice A1_3 l1_3.length c1_3, .slice A1_4 l1_4.length c1_4] 72); simpa using this⟩
 have FC : Aside0 (∀ W, Below E.heap.size E W → W.cell? ⟨gb + 1, 0, none⟩ = some (.string a1_0) ∧ W.cell? ⟨gb + 1, 1, none⟩ = some (.slice A1_1 l1_1.length c1_1) ∧ W.cell? ⟨gb + 1, 2, none⟩ = some (.slice A1_2 l1_2.length c1_2) ∧ W.cell? ⟨gb + 1, 3, none⟩ = some (.slice A1_3 l1_3.length c1_3) ∧ W.cell? ⟨gb + 1, 4, none⟩ = some (.slice A1_4 l1_4.length c1_4)) := ⟨fun W hW => by
  have hh := (hW.block _ (blk_lt HGT.out)).trans HGT.out
  exact ⟨(blk_cell hh 0).trans rfl, (blk_cell hh 1).trans rfl, (blk_cell hh 2).trans rfl, (blk_cell hh 3).trans rfl, (blk_cell hh 4).trans rfl⟩⟩
 have HR := Aside0.mk hr0
 have H1 := Aside0.mk hr1_1
 have H2 := Aside0.mk hr1_2
 have H3 := Aside0.mk hr1_3
 have H4 := Aside0.mk hr1_4
 have HL := Aside0.mk hL
 have HH := Aside0.mk h
 have HRI : Aside0 (∀ (k : Nat) (W : World) (A : Option Addr) (c : Nat) (l : List Int) (n : Int) (b : Bool), Kd.C (Kd.int .i64) W A l.length l → l.length ≤ c → scheme_rising.f k l n = some b → Calls Tryz.prog 127 #[.slice A l.length c, .int .i64 n] W fun e w' => e = .returned (.bool b) ∧ Below W.heap.size W w') := ⟨fun k W A c l n b hC hc hf => (scheme_rising.calls k A c l n b W hC hc hf).mono fun e w' hh => ⟨hh.1, drawn_below hh.2⟩⟩
 have HBD : Aside0 (∀ W, Below E.heap.size E W → Below w.heap.size w W) := ⟨fun W hW => below_step HE.out hW⟩
 have hB0 := Aside0.mk (Below.refl E.heap.size E)
 clear hr0 hr1_1 hr1_2 hr1_3 hr1_4 hL h HE
 subst hE
 subst hgb
 go_enter Tryz.func77, Tryz.ntmps77
 go_upto_region 1 with (fail)
 generalize hE : (w.alloc (Obj.cells #[.slice A0 l0.length c0] 23)).alloc (Obj.cells #[.string a1_0, .slice A1_1 l1_1.length c1_1, .slice A1_2 l1_2.length c1_2, .slice A1_3 l1_3.length c1_3, .slice A1_4 l1_4.length c1_4] 72) = E at *
 go_cut [39] (fun v39 wc => ∃ (kq : Nat) (b : Bool), v39 = .bool b ∧ Aside0 (scheme_validTable.j0 kq l0 b a1_0 l1_1 l1_2 l1_3 l1_4 = some r) ∧ Aside0 (Below E.heap.size E wc))
 case first =>
  have h := HH.out
  unfold scheme_validTable.f at h
  obtain ⟨nm, hnm, hrest⟩ := Option.bind_eq_some_iff.mp h
  have HNM : Aside0 (Calls Tryz.prog 52 #[.string a1_0] E fun e w' => e = .returned (.bool nm) ∧ Below E.heap.size E w') := ⟨lex_IsName.calls k a1_0 nm E hnm (LaidL.below HL (HBD.out E hB0.out))⟩
  obtain ⟨e0, e1, e2, e3, e4⟩ := FC.out E hB0.out
  clear h hnm
  cases nm with
  | false =>
   rw [if_neg (by decide)] at hrest
   have HR' := Aside0.mk hrest
   clear hrest
   go_wp2_with (go_at_call 52; refine HNM.out.mono ?_; rintro e w1 ⟨rfl, hb1⟩)
   go_meet
   case rel => exact ⟨_, true, rfl, HR', ⟨hb1⟩⟩
  | true =>
   rw [if_pos rfl] at hrest
   by_cases q1 : (l1_1.length : Int) > 8
   ·rw [if_pos q1] at hrest
    have d1 : decide (8 < (l1_1.length : Int)) = true := decide_eq_true q1
    have HR' := Aside0.mk hrest
    clear hrest q1
    go_wp2_with (go_at_call 52; refine HNM.out.mono ?_; rintro e w1 ⟨rfl, hb1⟩; obtain ⟨f0, f1, f2, f3, f4⟩ := FC.out w1 hb1)
    go_meet
    case rel => exact ⟨_, true, rfl, HR', ⟨hb1⟩⟩
   rw [if_neg q1] at hrest
   have d1 : decide (8 < (l1_1.length : Int)) = false := decide_eq_false q1
   clear q1
   by_cases q2 : (l1_2.length : Int) > 4
   ·rw [if_pos q2] at hrest
    have d2 : decide (4 < (l1_2.length : Int)) = true := decide_eq_true q2
    have HR' := Aside0.mk hrest
    clear hrest q2
    go_wp2_with (go_at_call 52; refine HNM.out.mono ?_; rintro e w1 ⟨rfl, hb1⟩; obtain ⟨f0, f1, f2, f3, f4⟩ := FC.out w1 hb1)
    go_meet
    case rel => exact ⟨_, true, rfl, HR', ⟨hb1⟩⟩
   rw [if_neg q2] at hrest
   have d2 : decide (4 < (l1_2.length : Int)) = false := decide_eq_false q2
   clear q2
   by_cases q3 : (l1_3.length : Int) > 4
   ·rw [if_pos q3] at hrest
    have d3 : decide (4 < (l1_3.length : Int)) = true := decide_eq_true q3
    have HR' := Aside0.mk hrest
    clear hrest q3
    go_wp2_with (go_at_call 52; refine HNM.out.mono ?_; rintro e w1 ⟨rfl, hb1⟩; obtain ⟨f0, f1, f2, f3, f4⟩ := FC.out w1 hb1)
    go_meet
    case rel => exact ⟨_, true, rfl, HR', ⟨hb1⟩⟩
   rw [if_neg q3] at hrest
   have d3 : decide (4 < (l1_3.length : Int)) = false := decide_eq_false q3
   clear q3
   obtain ⟨b, hb, hrest⟩ := Option.bind_eq_some_iff.mp hrest
   have HR' := Aside0.mk hrest
   have HN2 : Aside0 (∀ W, Below E.heap.size E W → Calls Tryz.prog 127 #[.slice A1_4 l1_4.length c1_4, .int .i64 l1_1.length] W fun e w' => e = .returned (.bool b) ∧ Below W.heap.size W w') := ⟨fun W hW => HRI.out k W A1_4 c1_4 l1_4 _ b (Kd.C_below H4.out (HBD.out W hW)) hc1_4 hb⟩
   clear hrest hb
   go_wp2_with (first | (go_at_call 52; refine HNM.out.mono ?_; rintro e w1 ⟨rfl, hb1⟩; obtain ⟨f0, f1, f2, f3, f4⟩ := FC.out w1 hb1) | (go_at_call 127; refine (HN2.out _ hb1).mono ?_; rintro e w2 ⟨rfl, hb2⟩))
   go_meet
   case rel => exact ⟨_, !b, by first | rfl | (simp; done), HR', ⟨below_step hb1 hb2⟩⟩
 case rest =>
  clear HH hB0
  obtain ⟨kq, b, rfl, HA, HB⟩ := hcut
  cases kq with
  | zero => exact absurd HA.out (by simp [scheme_validTable.j0])
  | succ k1 =>
   have h := HA.out
   clear HA
   simp only [scheme_validTable.j0] at h
   cases b with
   | true =>
    rw [if_pos rfl] at h
    obtain rfl := Option.some.inj h
    clear h
    go_wp2
    go_ret
    exact ⟨rfl, HBD.out _ HB.out⟩
   | false =>
    rw [if_neg (by decide)] at h
    obtain ⟨nms, hm, h⟩ := Option.bind_eq_some_iff.mp h
    obtain ⟨b, hd, h⟩ := Option.bind_eq_some_iff.mp h
    have HMC := Aside0.mk (scheme_mapColName.calls k1 A1_1 c1_1 l1_1 0 nms wc (Kd.C_below H1.out (HBD.out wc HB.out)) hc1_1 hm)
    have HDC : Aside0 (∀ A c W, Kd.C Kd.string W A nms.length nms → nms.length ≤ c → Calls Tryz.prog 64 #[.slice A nms.length c] W fun e w' => e = .returned (.bool b) ∧ Below W.heap.size W w') := ⟨fun A c W hC hc => scheme_distinct_string.calls A c nms b W hC hc hd⟩
    have HH := Aside0.mk h
    clear h hm hd
    obtain ⟨e0, e1, e2, e3, e4⟩ := FC.out wc HB.out
    cases b with
    | false =>
     have h := HH.out
     rw [if_neg (by decide)] at h
     obtain rfl := Option.some.inj h
     clear h
     go_wp2_with (first | (go_at_call 128; refine HMC.out.mono ?_; rintro e w1 ⟨v, rfl, hv, hb1⟩; obtain ⟨A7, c7, e7⟩ := Kd.R_slice hv; subst e7; obtain ⟨f0, f1, f2, f3, f4⟩ := FC.out w1 (below_step HB.out hb1)) | (go_at_call 64; refine (HDC.out _ _ _ (Kd.R_reads' hv).2.2 (Kd.R_reads' hv).2.1).mono ?_; rintro e w2 ⟨rfl, hb2⟩))
     go_ret
     exact ⟨rfl, HBD.out _ (below_step (below_step HB.out hb1) hb2)⟩
    | true =>
     have h := HH.out
     rw [if_pos rfl] at h
     have HP := Aside0.mk h
     clear h HH
     go_wp2_with (first | (go_at_call 128; refine HMC.out.mono ?_; rintro e w1 ⟨v, rfl, hv, hb1⟩; obtain ⟨A7, c7, e7⟩ := Kd.R_slice hv; subst e7; obtain ⟨f0, f1, f2, f3, f4⟩ := FC.out w1 (below_step HB.out hb1)) | (go_at_call 64; refine (HDC.out _ _ _ (Kd.R_reads' hv).2.2 (Kd.R_reads' hv).2.1).mono ?_; rintro e w2 ⟨rfl, hb2⟩; have HW2 := Aside0.mk (below_step (below_step HB.out hb1) hb2); clear e0 e1 e2 e3 e4; obtain ⟨e0, e1, e2, e3, e4⟩ := FC.out w2 HW2.out; clear hb1 hv))
     have HVC : Aside0 (∀ (k : Nat) (x : S78) (b : Bool) (W : World), Below E.heap.size E W → scheme_validColumn.f k x.f0 x.f1 x.f2 x.f3 x.f4 = some b → Calls Tryz.prog 130 #[.agg #[.string x.f0, .int .u8 x.f1, .bool x.f2, .int .i64 x.f3, .int .i64 x.f4]] W fun e w' => e = .returned (.bool b) ∧ Below W.heap.size W w') := ⟨fun k x b W hW hf => scheme_validColumn.calls k _ _ _ _ _ b W hf (LaidL.below HL (HBD.out W hW))⟩
     clear HMC HDC HB HL
     go_loopg [48] k1 (fun gk v48 wx => ∃ (i : Int), v48 = .int .i64 i ∧ Aside0 (Below E.heap.size E wx) ∧ Aside0 (scheme_validTable.l0 gk l0 l1_1 (l1_1.length : Int) i a1_0 l1_1 l1_2 l1_3 l1_4 = some r))
     case atStart => exact ⟨0, rfl, HW2, HP⟩
     case round =>
      clear HW2 HP e0 e1 e2 e3 e4
      obtain ⟨i, rfl, HW, HP⟩ := hrel
      cases gk with
      | zero => exact absurd HP.out (by simp [scheme_validTable.l0])
      | succ gk =>
       have hp := HP.out
       simp only [scheme_validTable.l0] at hp
       by_cases hii : i < (l1_1.length : Int)
       ·rw [if_pos hii] at hp
        by_cases hi0 : 0 ≤ i
        case neg => rw [if_neg hi0] at hp; cases hp
        rw [if_pos hi0, if_pos hii] at hp
        obtain ⟨b, hv, hp2⟩ := Option.bind_eq_some_iff.mp hp
        clear hp HP
        have HP := Aside0.mk hp2
        clear hp2
        obtain ⟨ad, hA, hx0, hx1, hx2, hx3, hx4⟩ := at_T78 (Kd.C_below H1.out (HBD.out wr HW.out)) i hi0 hii
        cases hA
        have HN : Aside0 (∀ o, Calls Tryz.prog 130 #[.agg #[.string (rd_T78 l1_1 i).f0, .int .u8 (rd_T78 l1_1 i).f1, .bool (rd_T78 l1_1 i).f2, .int .i64 (rd_T78 l1_1 i).f3, .int .i64 (rd_T78 l1_1 i).f4]] (wr.alloc o) fun e w' => e = .returned (.bool b) ∧ Below (wr.alloc o).heap.size (wr.alloc o) w') := ⟨fun o => HVC.out gk (rd_T78 l1_1 i) b (wr.alloc o) (HW.out.alloc HW.out.size _) hv⟩
        clear hv HVC
        generalize rd_T78 l1_1 i = x at *
        cases b with
        | false =>
         have hp := HP.out
         rw [if_neg (by decide)] at hp
         obtain rfl := Option.some.inj hp
         clear hp
         go_wp2_with (go_at_call 130; refine (HN.out _).mono ?_; rintro e w1 ⟨rfl, hb1⟩)
         go_ret
         exact ⟨rfl, HBD.out _ (below_step (HW.out.alloc HW.out.size _) hb1)⟩
        | true =>
         have hp := HP.out
         rw [if_pos rfl] at hp
         have HP2 := Aside0.mk hp
         clear hp
         go_wp2_with (go_at_call 130; refine (HN.out _).mono ?_; rintro e w1 ⟨rfl, hb1⟩)
         go_roundg gk
         case measure => omega
         case rel => exact ⟨wrap64 (i + 1), by first | rfl | (simp; done), ⟨below_step (HW.out.alloc HW.out.size _) hb1⟩, HP2⟩
       ·rw [if_neg hii] at hp
        have HP2 := Aside0.mk hp
        clear hp HP HVC
        obtain ⟨e0, e1, e2, e3, e4⟩ := FC.out wr HW.out
        go_wp2
        go_loopg [59] gk (fun gj v59 wx => ∃ (j : Int), v59 = .int .i64 j ∧ Aside0 (Below E.heap.size E wx) ∧ Aside0 (scheme_validTable.l1 gj l0 l1_2 (l1_2.length : Int) j a1_0 l1_1 l1_2 l1_3 l1_4 = some r))
        case atStart => exact ⟨0, rfl, HW, HP2⟩
        case round =>
         clear HW HP2 e0 e1 e2 e3 e4
         obtain ⟨j, rfl, HW, HP⟩ := hrel
         obtain ⟨e0, e1, e2, e3, e4⟩ := FC.out wr HW.out
         rename_i gk1
         cases gk with
         | zero => exact absurd HP.out (by simp [scheme_validTable.l1])
         | succ gk =>
          have hp := HP.out
          simp only [scheme_validTable.l1] at hp
          by_cases hjj : j < (l1_2.length : Int)
          ·rw [if_pos hjj] at hp
           by_cases hj0 : 0 ≤ j
           case neg => rw [if_neg hj0] at hp; cases hp
           rw [if_pos hj0, if_pos hjj] at hp
           obtain ⟨ad, Ak, ck, hA, hx, hck, hCk⟩ := at_L6 (Kd.C_below H2.out (HBD.out wr HW.out)) j hj0 hjj
           cases hA
           generalize rd_L6 l1_2 j = key at *
           by_cases hz : (key.length : Int) = 0
           ·rw [if_pos hz] at hp
            obtain rfl := Option.some.inj hp
            have hzb : ((key.length : Int) == 0) = true := beq_iff_eq.mpr hz
            clear hp HP hz hCk
            go_wp2
            go_ret
            exact ⟨rfl, HBD.out _ HW.out⟩
           ·rw [if_neg hz] at hp
            have hzb : ((key.length : Int) == 0) = false := beq_eq_false_iff_ne.mpr hz
            obtain ⟨b, hv, hp2⟩ := Option.bind_eq_some_iff.mp hp
            have HN := Aside0.mk (HRI.out gk wr Ak ck key _ b hCk hck hv)
            clear hp HP hz hv hCk
            have HP := Aside0.mk hp2
            clear hp2
            cases b with
            | false =>
             have hp := HP.out
             rw [if_neg (by decide)] at hp
             obtain rfl := Option.some.inj hp
             clear hp
             go_wp2_with (go_at_call 127; refine HN.out.mono ?_; rintro e w1 ⟨rfl, hb1⟩)
             go_ret
             exact ⟨rfl, HBD.out _ (below_step HW.out hb1)⟩
            | true =>
             have hp := HP.out
             rw [if_pos rfl] at hp
             have HP2 := Aside0.mk hp
             clear hp
             go_wp2_with (go_at_call 127; refine HN.out.mono ?_; rintro e w1 ⟨rfl, hb1⟩)
             go_roundg gk
             case measure => omega
             case rel => exact ⟨wrap64 (j + 1), by first | rfl | (simp; done), ⟨below_step HW.out hb1⟩, HP2⟩
          ·rw [if_neg hjj] at hp
           obtain ⟨b, hv, hp2⟩ := Option.bind_eq_some_iff.mp hp
           obtain rfl := Option.some.inj hp2
           have hB := HBD.out wr HW.out
           have HN := Aside0.mk (anyBad_walk gk A1_3 c1_3 l1_3 A0 c0 l0 a1_0 A1_1 c1_1 l1_1 A1_2 c1_2 l1_2 A1_3 c1_3 l1_3 A1_4 c1_4 l1_4 b w.heap.size (w.heap.size + 1) wr (Kd.C_below H3.out hB) hc1_3 (Kd.C_below HR.out hB) hc0 (Kd.C_below H1.out hB) hc1_1 (Kd.C_below H2.out hB) hc1_2 (Kd.C_below H3.out hB) hc1_3 (Kd.C_below H4.out hB) hc1_4 ((HW.out.block _ (blk_lt HGB.out)).trans HGB.out) ((HW.out.block _ (blk_lt HGT.out)).trans HGT.out) hv)
           clear hp hp2 HP hv hB
           go_wp2_with (go_at_call 131; refine HN.out.mono ?_; rintro e w1 ⟨rfl, hb1⟩)
           go_ret
           exact ⟨by first | rfl | (simp; done), HBD.out _ (below_step HW.out hb1)⟩
end Go.Proofs.YthgfdnffnbclpaaGreatDoor.PAll
