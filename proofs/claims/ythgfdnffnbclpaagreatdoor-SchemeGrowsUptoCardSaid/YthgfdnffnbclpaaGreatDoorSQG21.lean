import Derived.Test.YthgfdnffnbclpaaGreatDoorSQG20
import Derived.RangeFuncBox
import Derived.RangeFuncLeaves
import Derived.RangeFuncWrites
import Derived.Shelf.Abstract
import Derived.WalkKit
import Derived.OwnWalkIn
import Derived.TacticsInMore
import Derived.LoopNIn
import Derived.LoopIn
import Derived.Maps.AppendAt
set_option linter.unusedVariables false
set_option linter.unusedSimpArgs false
namespace Go.Proofs.YthgfdnffnbclpaaGreatDoor.PAll
open Go.RowKit Go.Shelf Go.Proofs.YthgfdnffnbclpaaGreatDoorW.PrintWords Go.Proofs.YthgfdnffnbclpaaGreatDoorW.PrintLast Go.Proofs.YthgfdnffnbclpaaGreatDoorW.PrintMore
attribute [local go_sem] Oper.semAt_some
set_option maxRecDepth 100000 in
set_option maxHeartbeats 2000000 in
theorem values1_in (F : Fence) (n : Nat) (h7 : F.fn 158) (hro : F.round = none) (hn : 1 ≤ n) (l Bs n₀ b off cap : Nat) (zs : List Int) (hreach : zs.length ≤ 100) (hb : b < n₀) (J Jx : List Int → World → Prop)
  (hY : ∀ pre x W, J pre W → pre.length < zs.length → YieldAt F (n - 1) Tryz.prog l #[.int .i64 x] W fun e W' =>
   (e = .returned (.bool true) ∧ J (pre ++ [x]) W' ∧ Below n₀ W W') ∨ (e = .returned (.bool false) ∧ Jx (pre ++ [x]) W'))
  (W : World) (hBs : W.cell? ⟨Bs, 0, none⟩ = some (.slice (some ⟨b, off, none⟩) zs.length cap)) (hBn : Bs < n₀) (hc : ∀ j, j < zs.length → W.cell? ⟨b, off + j, none⟩ = some (.int .i64 (zs[j]?.getD 0))) (h0 : J [] W) :
  CallsIn F n Tryz.prog 158 #[.func (.yield l) #[] #[], .pointer (some ⟨Bs, 0, none⟩)] W fun e W' => (∃ v, e = .returned v) ∧
   ((∃ ys, ys = zs ∧ J ys W') ∨ (∃ pre, pre <+: zs ∧ Jx pre W')) := by
 refine callsIn_of_wp Tryz.func158 rfl h7 ?_ hro
 simp only [Tryz.ntmps158, List.size_toArray, List.length_cons, List.length_nil, Nat.reduceAdd, Nat.reduceSub, Array.replicate_succ, Array.replicate_zero, List.push_toArray, List.append_toArray, List.nil_append, List.cons_append]
 gi_wp2
 gi_loopw [7] (fun i wr => ∃ k : Nat, k ≤ zs.length ∧ i = .int .i64 k ∧ J (zs.take k) wr ∧ Below n₀ W wr)
  (fun i _ => zs.length - (intOf i).toNat)
 case atStart => exact ⟨0, Nat.zero_le _, rfl, by simpa using h0, Below.refl _ _⟩
 case round =>
  obtain ⟨k, hk, rfl, hJs, hnx⟩ := hrel
  have hcx : k < zs.length → wr.cell? ⟨b, off + k, none⟩ = some (.int .i64 (zs[k]?.getD 0)) := fun h => (hnx.cell (p := ⟨b, off + k, none⟩) hb).trans (hc k h)
  by_cases hlt : k < zs.length
  ·have htk : zs.take (k + 1) = zs.take k ++ [zs[k]?.getD 0] := by rw [take_snoc hlt]; simp [hlt]
   have hcx' := hcx hlt
   clear hcx hc
   generalize zs[k]?.getD 0 = y at *
   obtain ⟨fn, tmps, assign, body, hy, hR⟩ := hY _ y wr hJs (by rw [List.length_take]; omega)
   rw [← htk] at hR
   clear htk
   gi_wp2
   refine hR.mono ?_
   rintro e W3 (⟨rfl, hJ3, hk3⟩ | ⟨rfl, hJx3⟩)
   ·gi_wp2
    go_roundw
    case rel => exact ⟨k + 1, by omega, by simp, hJ3, hnx.trans hk3⟩
    case measure => simp [intOf]; omega
   ·gi_wp2
    refine bodyPost_ret (results_none rfl _ _ _) rfl ?_
    exact ⟨⟨_, rfl⟩, .inr ⟨_, List.take_prefix _ _, hJx3⟩⟩
  ·obtain rfl : k = zs.length := by omega
   rw [List.take_length] at hJs
   gi_wp2
   go_end0
   exact ⟨⟨_, rfl⟩, .inl ⟨_, rfl, hJs⟩⟩
set_option maxRecDepth 100000 in
set_option maxHeartbeats 1000000 in
theorem values1_nil_in (F : Fence) (n : Nat) (h7 : F.fn 158) (hro : F.round = none) (l Bs c : Nat) (J : List Int → World → Prop) (W : World) (hBs : W.cell? ⟨Bs, 0, none⟩ = some (.slice none 0 c)) (h0 : J [] W) :
  CallsIn F n Tryz.prog 158 #[.func (.yield l) #[] #[], .pointer (some ⟨Bs, 0, none⟩)] W fun e W' => (∃ v, e = .returned v) ∧ J [] W' := by
 refine callsIn_of_wp Tryz.func158 rfl h7 ?_ hro
 simp only [Tryz.ntmps158, List.size_toArray, List.length_cons, List.length_nil, Nat.reduceAdd, Nat.reduceSub, Array.replicate_succ, Array.replicate_zero, List.push_toArray, List.append_toArray, List.nil_append, List.cons_append]
 gi_wp2
 gi_loopw [7] (fun i wr => i = .int .i64 0 ∧ J [] wr) (fun _ _ => 0)
 case atStart => exact ⟨rfl, h0⟩
 case round =>
  obtain ⟨rfl, hJs⟩ := hrel
  gi_wp2
  go_end0
  exact ⟨⟨_, rfl⟩, hJs⟩
def IntsAt (n₀ : Nat) (W : World) (sv : Value) (zs : List Int) : Prop :=
 (∃ c, sv = .slice none 0 c ∧ zs = []) ∨ ∃ b off cap, sv = .slice (some ⟨b, off, none⟩) zs.length cap ∧ b < n₀ ∧ ∀ j, j < zs.length → W.cell? ⟨b, off + j, none⟩ = some (.int .i64 (zs[j]?.getD 0))
theorem IntsAt.below {n₀ : Nat} {A B : World} (h : Below n₀ A B) {sv : Value} {zs : List Int} : IntsAt n₀ A sv zs → IntsAt n₀ B sv zs
 | .inl e => .inl e
 | .inr ⟨b, off, cap, e, hb, hc⟩ => .inr ⟨b, off, cap, e, hb, fun j hj => (h.cell (p := ⟨b, off + j, none⟩) hb).trans (hc j hj)⟩
theorem values_stops (F : Fence) (n : Nat) (h7 : F.fn 158) (hro : F.round = none) (hn : 1 ≤ n) (Bs n₀ : Nat) (sv : Value) (zs : List Int) (hreach : zs.length ≤ 100) (w : World) (hBs : Bs < n₀) (hn₀ : n₀ ≤ w.heap.size)
  (hc : w.cell? ⟨Bs, 0, none⟩ = some sv) (hI : IntsAt n₀ w sv zs) :
  SeqStopsK F n Tryz.prog 158 #[.pointer (some ⟨Bs, 0, none⟩)] (fun x : Int => #[Value.int .i64 x]) (Below n₀) (fun ys => ys = zs) (fun pre => pre <+: zs) zs.length w := fun l J Jx W hW _ _ hY h0 => by
 have hc' := (hW.cell (p := ⟨Bs, 0, none⟩) (by show Bs < w.heap.size; omega)).trans hc
 rcases hI.below (hW.mono hn₀) with ⟨c, rfl, rfl⟩ | ⟨b, off, cap, rfl, hb, hcs⟩
 ·exact (values1_nil_in F n h7 hro l Bs c J W hc' h0).mono fun e W' ⟨he, hj⟩ => ⟨he, .inl ⟨_, rfl, hj⟩⟩
 ·exact values1_in F n h7 hro hn l Bs n₀ b off cap zs hreach hb J Jx hY W hc' hBs hcs h0
theorem valInfo3 : (Tryz.prog.info? 3).map (fun i => (i.zero, i.size, i.bytes)) = some (some (.int .i64 0), 1, 8) := by kernel_rfl
set_option maxRecDepth 100000 in
set_option maxHeartbeats 2000000 in
theorem appendSeq_walk (Bs : Nat) (sv : Value) (zs : List Int) (hreach : zs.length ≤ 100) (w : World) (hBs : Bs < w.heap.size) (hcs : w.cell? ⟨Bs, 0, none⟩ = some sv) (hI : IntsAt w.heap.size w sv zs) :
  Calls Tryz.prog 187 #[.slice none 0 0, .func (.func 158) #[] #[.pointer (some ⟨Bs, 0, none⟩)]] w fun e W' => ∃ v, e = .returned v ∧ W'.ownsRow w.heap.size 3 1 v zs.length (zs.map (Value.int .i64)) ∧ Below w.heap.size w W' := by
 obtain ⟨i0, hi, hz0, hz1, hz2⟩ := info_parts valInfo3
 refine (callsIn_wide (n := 6)).1 ?_
 refine callsIn_of_wp_marks Tryz.func187 rfl trivial ?_ rfl
 simp only [Tryz.ntmps187, List.size_toArray, List.length_cons, List.length_nil, Nat.reduceAdd, Nat.reduceSub, Array.replicate_succ, Array.replicate_zero, List.push_toArray, List.append_toArray, List.nil_append, List.cons_append]
 gi_wp2
 have bO := Boxed.new w 70 (.slice none 0 0)
 have hB0 : Below w.heap.size w (w.alloc (.cells #[.slice none 0 0] 70)) := (Below.refl _ w).alloc (Nat.le_refl _) _
 refine wpIn_rangeFunc_ownG rfl (by omega) (gf := 158) (lb := #[.pointer (some ⟨Bs, 0, none⟩)]) rfl trivial (enters_of Tryz.func158 (by kernel_rfl) rfl)
  (values_stops Fence.wide (6 - 1) trivial rfl (by omega) Bs w.heap.size sv zs hreach _ hBs (by simp) ((hB0.cell (p := ⟨Bs, 0, none⟩) hBs).trans hcs) (hI.below hB0)) belowK_t (belowK_b (by simp)) (Below.refl _ _) (fun _ => rfl)
  (fun pre W => (∃ v, Boxed W w.heap.size 70 v ∧ W.ownsRow w.heap.size 3 1 v pre.length (pre.map (Value.int .i64)) ∧ True) ∧ Below w.heap.size w W)
  (fun _ _ _ => False)
  (OwnFrom.and (Own.from (holdsRow_own w.heap.size w.heap.size 70 3 1 (fun pre : List Int => pre.length) (fun pre => pre.map (Value.int .i64)) (fun _ _ => True)) _) (ownFrom_below (Nat.le_refl _) (by simp)))
  (fun _ _ _ _ _ hs _ _ => hs)
  ⟨⟨_, bO, World.ownsRow_nil _ _ _ _, trivial⟩, hB0⟩
  (fun x => { tmps := #[.slice none 0 0, .func (.func 158) #[] #[.pointer (some ⟨Bs, 0, none⟩)], .pointer (some ⟨w.heap.size, 0, none⟩), undef, .slice none 0 0, .int .i64 x, .func (.func 158) #[] #[.pointer (some ⟨Bs, 0, none⟩)], .int .i64 x, undef, undef, undef, undef, undef], defers := [] }) ?assign ?body ?done ?stop
 case assign =>
  intro l x W K hK
  gi_wp2
  exact hK
 case body =>
  rintro l pre x W ⟨⟨v, hv, hrow, _⟩, hB⟩ hlt
  have hc := hv.cell
  gi_wp2_with (gi_at_builtin; refine wpListIn_append_own _ rfl _ _ 70 rfl w.heap.size 3 i0 (.int .i64 0) 1 8 Tryz.underlying70 hi hz0 hz1 hz2 rfl (by decide) _ _ _ rfl (hrow.alloc _) ⟨W.heap.size, 0, none⟩ 1 1 [.int .i64 x] rfl rfl (cell_one_new _ _ _) (by simp [Value.oneCell']) (by unfold maxLen; omega) (by omega) (by have := hB.size; simp; omega) ?_; intro v' w1 hown' hgrow _; obtain ⟨g', cap', rfl⟩ := ownsRow_succ hown'; obtain ⟨hv1, hv2, hr2, hk2, hb2⟩ := hv.appended (by decide) hrow hB.size (Nat.le_refl _) hown' hgrow; have hc1 := hv1.cell; have hf1 := hv1.frozen)
  exact ⟨hk2.from _, hb2, ⟨_, hv2, by simpa using hr2, trivial⟩, hB.trans hb2⟩
 case done =>
  rintro D ys W hD rfl ⟨⟨v, hv, hrow, _⟩, hB⟩ hK
  have hc := hv.cell
  gi_wp2
  refine ⟨by simp, .inl ⟨_, _, rfl, run_takeDeferred hK, ?_⟩⟩
  exact ⟨_, results_tmp rfl _ _ _, v, rfl, ownsRow_putObj hrow _ hK rfl, hB.trans (belowK_b (w := w) (Nat.le_refl _) W D _ _ (by simp at hD; omega) hK rfl rfl)⟩
 case stop =>
  rintro D c pre W _ _ h _
  exact h.elim
end Go.Proofs.YthgfdnffnbclpaaGreatDoor.PAll
namespace Go.Proofs.YthgfdnffnbclpaaGreatDoor.PAll
open Go.RowKit Go.Proofs.YthgfdnffnbclpaaGreatDoorW.PrintWords Go.Proofs.YthgfdnffnbclpaaGreatDoorW.PrintLast Go.Proofs.YthgfdnffnbclpaaGreatDoorW.PrintMore
set_option maxRecDepth 100000 in
theorem len64_walk (n : Nat) (h : n ≤ 12) (w : World) : Calls Tryz.prog 186 #[.int .u64 n] w fun e w' => ∃ r : Int, e = .returned (.int .i64 r) ∧ w' = w := by
 obtain ⟨j, rfl⟩ : ∃ j : Fin 13, n = j.val := ⟨⟨n, by omega⟩, rfl⟩
 have h1 : decide ((4294967296 : Int) ≤ (j.val : Int)) = false := decide_eq_false (by omega)
 have h2 : decide ((65536 : Int) ≤ (j.val : Int)) = false := decide_eq_false (by omega)
 have h3 : decide ((256 : Int) ≤ (j.val : Int)) = false := decide_eq_false (by omega)
 match j with
 | 0 | 1 | 2 | 3 | 4 | 5 | 6 | 7 | 8 | 9 | 10 | 11 | 12 =>
  go_enter Tryz.func186, Tryz.ntmps186
  go_wp2
  go_ret
  exact ⟨_, rfl, rfl⟩
theorem len_walk (n : Nat) (h : n ≤ 12) (w : World) : Calls Tryz.prog 156 #[.int .u64 n] w fun e w' => ∃ r : Int, e = .returned (.int .i64 r) ∧ w' = w := by
 have HN := Aside0.mk (len64_walk n h w)
 go_enter Tryz.func156, Tryz.ntmps156
 go_wp2_with (go_at_call 186; refine HN.out.mono ?_; rintro e w1 ⟨r, rfl, rfl⟩)
 go_ret
 exact ⟨_, rfl, rfl⟩
set_option maxHeartbeats 4000000 in
set_option maxRecDepth 100000 in
theorem pdq_walk (A : Option Addr) (cap : Nat) (l r : List Int) (lim : Int) (base : Nat) (ok : Nat → Prop) (w : World) (hO : (Kd.int .i64).R 3 w base ok (.slice A l.length cap) l) (hl : l.length ≤ 12) (hr : r.Perm l) (hrs : r.Pairwise (· ≤ ·)) :
  Calls Tryz.prog 155 #[.slice A l.length cap, .int .i64 0, .int .i64 l.length, .int .i64 lim] w fun e w' => e = .returned (.tuple #[]) ∧ (Kd.int .i64).R 3 w' base ok (.slice A l.length cap) r ∧ w.grownBy w' (Value.slice A l.length cap).ownBlock := by
 have HN := Aside0.mk (insSort_walk A cap l r base ok w hO (by omega) hr hrs)
 have hd : decide ((l.length : Int) ≤ 12) = true := decide_eq_true (by omega)
 clear hO hr hrs
 go_enter Tryz.func155, Tryz.ntmps155
 go_wp2
 refine wp_loop_once ?_
 go_wp2_with (go_at_call 177; refine HN.out.mono ?_; rintro e w1 ⟨rfl, hO1, hg1⟩)
 refine bodyPost_ret (results_none rfl _ _ _) rfl ?_
 exact ⟨rfl, hO1, hg1⟩
set_option maxHeartbeats 4000000 in
set_option maxRecDepth 100000 in
theorem sort_walk (A : Option Addr) (cap : Nat) (l r : List Int) (base : Nat) (ok : Nat → Prop) (w : World) (hO : (Kd.int .i64).R 3 w base ok (.slice A l.length cap) l) (hl : l.length ≤ 12) (hr : r.Perm l) (hrs : r.Pairwise (· ≤ ·)) :
  Calls Tryz.prog 117 #[.slice A l.length cap] w fun e w' => e = .returned (.tuple #[]) ∧ (Kd.int .i64).R 3 w' base ok (.slice A l.length cap) r ∧ w.grownBy w' (Value.slice A l.length cap).ownBlock := by
 have HN := Aside0.mk (fun lim => pdq_walk A cap l r lim base ok w hO hl hr hrs)
 have HL := Aside0.mk (len_walk l.length hl w)
 clear hO hr hrs
 go_enter Tryz.func117, Tryz.ntmps117
 go_wp2_with (first
  | (go_at_call 156; refine HL.out.mono ?_; rintro e w1 ⟨lim, rfl, rfl⟩)
  | (go_at_call 155; refine (HN.out _).mono ?_; rintro e w2 ⟨rfl, hO1, hg1⟩))
 go_end0
 exact ⟨rfl, hO1, hg1⟩
theorem collect_walk (Bs : Nat) (sv : Value) (zs : List Int) (hreach : zs.length ≤ 100) (w : World) (hBs : Bs < w.heap.size) (hcs : w.cell? ⟨Bs, 0, none⟩ = some sv) (hI : IntsAt w.heap.size w sv zs) :
  Calls Tryz.prog 157 #[.func (.func 158) #[] #[.pointer (some ⟨Bs, 0, none⟩)]] w fun e W' => ∃ v, e = .returned v ∧ (Kd.int .i64).R 3 W' w.heap.size (fun _ => True) v zs ∧ Below w.heap.size w W' := by
 have HN := Aside0.mk (appendSeq_walk Bs sv zs hreach w hBs hcs hI)
 clear hcs hI
 go_enter Tryz.func157, Tryz.ntmps157
 go_wp2_with (go_at_call 187; refine HN.out.mono ?_; rintro e w1 ⟨v, rfl, ho, hb1⟩)
 go_ret
 exact ⟨_, rfl, Kd.R_of_own ho (fun _ _ => trivial), hb1⟩
set_option maxRecDepth 100000 in
theorem sortedV_walk (Bs : Nat) (sv : Value) (zs r : List Int) (hreach : zs.length ≤ 12) (w : World) (hBs : Bs < w.heap.size) (hcs : w.cell? ⟨Bs, 0, none⟩ = some sv) (hI : IntsAt w.heap.size w sv zs) (hr : r.Perm zs) (hrs : r.Pairwise (· ≤ ·)) :
  Calls Tryz.prog 118 #[.func (.func 158) #[] #[.pointer (some ⟨Bs, 0, none⟩)]] w fun e W' => ∃ v, e = .returned v ∧ (Kd.int .i64).R 3 W' w.heap.size (fun _ => True) v r ∧ Below w.heap.size w W' := by
 have HN := Aside0.mk (collect_walk Bs sv zs (by omega) w hBs hcs hI)
 have HR := Aside0.mk hr
 have HRS := Aside0.mk hrs
 clear hcs hI hr hrs
 go_enter Tryz.func118, Tryz.ntmps118
 go_wp2_with (first
  | (go_at_call 157; refine HN.out.mono ?_; rintro e w1 ⟨v, rfl, ho, hb1⟩; obtain ⟨A, c, ev⟩ := Kd.R_slice ho; subst ev; have HS := Aside0.mk (sort_walk A c zs r w.heap.size (fun _ => True) w1 ho hreach HR.out HRS.out); have HB := Aside0.mk hb1; have hbs := Kd.R_base ho; clear ho hb1)
  | (go_at_call 117; refine HS.out.mono ?_; rintro e w2 ⟨rfl, ho2, hg2⟩))
 go_ret
 exact ⟨_, rfl, ho2, HB.out.grown hg2 HB.out.size (fun k hk => hbs k hk)⟩
theorem values_walk (A : Option Addr) (n c : Nat) (w : World) :
  Calls Tryz.prog 119 #[.slice A n c] w fun e w' => e = .returned (.func (.func 158) #[] #[.pointer (some ⟨w.heap.size, 0, none⟩)]) ∧ w' = w.alloc (.cells #[.slice A n c] 70) := by
 go_enter Tryz.func119, Tryz.ntmps119
 go_wp2
 go_ret
 exact ⟨rfl, rfl⟩
theorem intsAt_of {W : World} {A : Option Addr} {c n₀ : Nat} {zs : List Int} {base : Nat} {ok : Nat → Prop} (h : (Kd.int .i64).R 3 W base ok (.slice A zs.length c) zs) (hn : W.heap.size ≤ n₀) : IntsAt n₀ W (.slice A zs.length c) zs := by
 cases A with
 | none =>
  have hz : zs = [] := by
   cases zs with
   | nil => rfl
   | cons x l =>
    obtain ⟨g, cap, e, _⟩ := Kd.R_form h (by simp)
    cases e
  subst hz
  exact .inl ⟨c, rfl, rfl⟩
 | some ad =>
  obtain ⟨g, rfl⟩ := Kd.R_head h
  refine .inr ⟨g, 0, c, rfl, by have := Kd.R_lt h g (by simp [Value.ownBlock]); omega, fun j hj => ?_⟩
  have := (R_num h j hj).1
  rw [Nat.zero_add, this]
  simp [List.getD, hj]
def eqI (a b : List Int) : Bool := decide (a = b)
set_option maxHeartbeats 1000000 in
set_option maxRecDepth 100000 in
theorem equal_walk (A : Option Addr) (c : Nat) (a : List Int) (A2 : Option Addr) (c2 : Nat) (b : List Int) (w : World) (hC : Kd.C (Kd.int .i64) w A a.length a) (hc : a.length ≤ c) (hC2 : Kd.C (Kd.int .i64) w A2 b.length b) (hc2 : b.length ≤ c2) :
  Calls Tryz.prog 122 #[.slice A a.length c, .slice A2 b.length c2] w fun e w' => e = .returned (.bool (eqI a b)) ∧ Below w.heap.size w w' := by
 have HC := Aside0.mk hC
 have HC2 := Aside0.mk hC2
 have HB0 := Aside0.mk (Below.refl w.heap.size w)
 clear hC hC2
 unfold eqI
 go_enter Tryz.func122, Tryz.ntmps122
 by_cases q : a.length = b.length
 case neg =>
  have d0 : decide (a = b) = false := decide_eq_false (fun h => q (by rw [h]))
  have d1 : ((a.length : Int) == (b.length : Int)) = false := beq_eq_false_iff_ne.mpr (by omega)
  have d2 : ((a.length : Int) != (b.length : Int)) = true := bne_iff_ne.mpr (by omega)
  rw [d0]
  clear q d0
  go_wp2
  go_ret
  exact ⟨rfl, HB0.out⟩
 have d1 : ((a.length : Int) == (b.length : Int)) = true := beq_iff_eq.mpr (by omega)
 have d2 : ((a.length : Int) != (b.length : Int)) = false := by rw [bne, d1]; rfl
 have HQ := Aside0.mk q
 clear q
 go_wp2
 clear d1 d2
 go_loopg [13] a.length (fun gk v13 wx => ∃ (i : Nat), i + gk = a.length ∧ v13 = .int .i64 i ∧ Aside0 (Below w.heap.size w wx) ∧ Aside0 (a.take i = b.take i))
 case atStart => exact ⟨0, by omega, rfl, HB0, ⟨by simp⟩⟩
 case round =>
  clear HB0
  obtain ⟨i, hi, rfl, HW, HP⟩ := hrel
  cases gk with
  | zero =>
   have hii : ¬ (i : Int) < (a.length : Int) := by omega
   have d0 : decide (a = b) = true := decide_eq_true (by
    have h1 := HP.out
    rw [List.take_of_length_le (by omega), List.take_of_length_le (by have := HQ.out; omega)] at h1
    exact h1)
   have HD := Aside0.mk d0
   clear d0
   go_wp2
   go_ret
   exact ⟨by rw [HD.out]; rfl, HW.out⟩
  | succ gk =>
   have hlt : i < a.length := by omega
   have hlt2 : i < b.length := by have := HQ.out; omega
   have hii : (i : Int) < (a.length : Int) := by omega
   have hii2 : (i : Int) < (b.length : Int) := by omega
   have hi0 : (0 : Int) ≤ (i : Int) := by omega
   obtain ⟨ad, hA, hx⟩ := Kd.at_int HC.out (i : Int) hi0 hii
   obtain ⟨ad2, hA2, hx2⟩ := Kd.at_int HC2.out (i : Int) hi0 hii2
   cases hA
   cases hA2
   have e1 : rd a (i : Int) = a[i] := by unfold rd; simp [List.getD, hlt]
   have e2 : rd b (i : Int) = b[i] := by unfold rd; simp [List.getD, hlt2]
   rw [e1, Int.toNat_natCast] at hx
   rw [e2, Int.toNat_natCast] at hx2
   have hy := (HW.out.cell (World.block_lt_of_cell? w _ hx)).trans hx
   have hy2 := (HW.out.cell (World.block_lt_of_cell? w _ hx2)).trans hx2
   have KS : ∀ n, (wr.drewN n).cell? (ad.add i) = some (.int .i64 a[i]) ∧ (wr.drewN n).cell? (ad2.add i) = some (.int .i64 b[i]) := fun n => ⟨hy, hy2⟩
   have HB2 := Aside0.mk (fun n => below_step HW.out (pw_below_drewN (Below.refl _ _) n))
   by_cases q : a[i] = b[i]
   ·have HP2 : Aside0 (a.take (i + 1) = b.take (i + 1)) := ⟨by rw [take_snoc hlt, take_snoc hlt2, HP.out, q]⟩
    have d1 : (a[i] == b[i]) = true := beq_iff_eq.mpr q
    have d2 : (a[i] != b[i]) = false := by rw [bne, d1]; rfl
    clear q hx hx2 e1 e2 HP
    generalize a[i] = xa at *
    generalize b[i] = xb at *
    go_wp2
    go_quiet (fail)
    go_wp2
    have HB3 := Aside0.mk (HB2.out nq)
    go_roundg gk
    case measure => omega
    case rel => exact ⟨i + 1, by omega, by first | rfl | (simp; done) | (have := HC.out.2.1; simp; unfold wrap64; omega), HB3, HP2⟩
   ·have d0 : decide (a = b) = false := decide_eq_false (fun h => q (by subst h; rfl))
    have d1 : (a[i] == b[i]) = false := beq_eq_false_iff_ne.mpr q
    have d2 : (a[i] != b[i]) = true := bne_iff_ne.mpr q
    have HD := Aside0.mk d0
    clear q hx hx2 e1 e2 HP d0
    generalize a[i] = xa at *
    generalize b[i] = xb at *
    go_wp2
    go_quiet (fail)
    go_wp2
    go_ret
    exact ⟨by rw [HD.out]; rfl, HB2.out nq⟩
theorem grown_fresh {a b c : World} {g : Nat} {r : Option Nat} (h : a.grownBy b (some g)) (k : b.grownBy c r) (hr : ∀ j, r = some j → a.heap.size ≤ j) : a.grownBy c (some g) :=
 ⟨k.os.trans h.os, k.tape.trans h.tape, k.output.trans h.output, Nat.le_trans h.size k.size, fun i hi hn => (k.block i (Nat.lt_of_lt_of_le hi h.size) (fun e => by have := hr i e.symm; omega)).trans (h.block i hi hn)⟩
def Bd (g base : Nat) (b : Value) (nm : ByteArray) (cols : List S78) (keys : List (List Int)) (refs : List S75) (err : Int) (W : World) : Prop :=
 base ≤ g ∧ ∃ v1 v2 v3, W.heap[g]? = some (.cells #[b, .string nm, v1, v2, v3, .slice none 0 0, .int .i64 err] 118 (0, 0)) ∧ k78.R 83 W base (fun _ => True) v1 cols ∧ (Kd.slice 3 (Kd.int .i64)).R 70 W base (fun _ => True) v2 keys ∧ k75.R 75 W base (fun _ => True) v3 refs
theorem seven_at {W : World} {g t : Nat} {a b c d e f h : Value} (hb : W.heap[g]? = some (.cells #[a, b, c, d, e, f, h] t (0, 0))) :
  W.cell? ⟨g, 0, none⟩ = some a ∧ W.cell? ⟨g, 1, none⟩ = some b ∧ W.cell? ⟨g, 2, none⟩ = some c ∧ W.cell? ⟨g, 3, none⟩ = some d ∧ W.cell? ⟨g, 4, none⟩ = some e ∧ W.cell? ⟨g, 5, none⟩ = some f ∧ W.cell? ⟨g, 6, none⟩ = some h ∧ ∀ j, W.frozen? ⟨g, j, none⟩ = false :=
 ⟨(blk_cell hb 0).trans rfl, (blk_cell hb 1).trans rfl, (blk_cell hb 2).trans rfl, (blk_cell hb 3).trans rfl, (blk_cell hb 4).trans rfl, (blk_cell hb 5).trans rfl, (blk_cell hb 6).trans rfl, fun j => blk_frozen hb j⟩
theorem R_but {α : Type} {d : Kd α} {e base g t : Nat} {w w1 : World} {v : Value} {xs : List α} {cells : Array Value} (h : d.R e w base (fun _ => True) v xs) (hb : w.heap[g]? = some (.cells cells t (0, 0))) (ht : ∀ q, q ∈ e :: d.E → q ≠ t) (hg : w.grownBy w1 (some g)) : d.R e w1 base (fun _ => True) v xs :=
 Kd.R_mono (Kd.R_grown (Kd.R_types h hb ht) hg (fun k hk he => hk.2 (by injection he))) (fun _ _ => trivial)
def sortI (l : List Int) : List Int := l.mergeSort (fun a b => decide (a ≤ b))
theorem sortI_perm (l : List Int) : (sortI l).Perm l := List.mergeSort_perm l _
theorem sortI_sorted (l : List Int) : (sortI l).Pairwise (· ≤ ·) := by
 have h := List.pairwise_mergeSort (le := fun a b : Int => decide (a ≤ b)) (fun a b c h1 h2 => by simp at *; omega) (fun a b => by simp; omega) l
 exact h.imp (fun h => by simpa using h)
theorem distP_nodup {α : Type} [DecidableEq α] : ∀ (l S : List α), distP S l = true → l.Nodup ∧ ∀ x ∈ l, x ∉ S
 | [], _, _ => ⟨List.nodup_nil, fun x h => by cases h⟩
 | x :: r, S, h => by
  rw [distP] at h
  split at h
  ·cases h
  ·rename_i q
   obtain ⟨h1, h2⟩ := distP_nodup r _ h
   refine ⟨List.nodup_cons.2 ⟨fun hx => h2 x hx (by simp), h1⟩, fun y hy => ?_⟩
   rcases List.mem_cons.1 hy with e | hy
   ·subst e; exact fun hs => q ((memP_iff _ _).2 hs)
   ·exact fun hs => h2 y hy (by simp [hs])
theorem nodup_len : ∀ (l : List Int) (m : Nat), l.Nodup → (∀ x ∈ l, 0 ≤ x ∧ x < (m : Int)) → l.length ≤ m
 | l, 0, _, h => by
  cases l with
  | nil => exact Nat.le_refl _
  | cons x r => have := h x List.mem_cons_self; omega
 | l, m + 1, hn, h => by
  have h1 := nodup_len (l.erase (m : Int)) m (hn.erase _) (fun x hx => by
   have h2 := h x (List.mem_of_mem_erase hx)
   have h3 : x ≠ (m : Int) := fun e => by subst e; exact (List.Nodup.not_mem_erase hn) hx
   omega)
  by_cases q : (m : Int) ∈ l
  ·rw [List.length_erase_of_mem q] at h1; omega
  ·rw [List.erase_of_not_mem q] at h1; omega
def keyS (cols : List S78) (keys : List (List Int)) (l : List ByteArray) : List (List Int) × Int :=
 if askE (askE 0 (decide (-1 ∈ colsN cols l)) 71) (!distP [] (colsN cols l)) 70 = 0 then (keys ++ [sortI (colsN cols l)], 0) else (keys, askE (askE 0 (decide (-1 ∈ colsN cols l)) 71) (!distP [] (colsN cols l)) 70)
theorem colsN_range (cols : List S78) (l : List ByteArray) : ∀ x ∈ colsN cols l, x = -1 ∨ (0 ≤ x ∧ x < (cols.length : Int)) := fun x hx => by
 unfold colsN at hx
 obtain ⟨s, _, rfl⟩ := List.mem_map.1 hx
 rcases colP_range s cols 0 with h | h
 ·exact .inl h
 ·exact .inr ⟨by omega, by have := h.2; omega⟩
theorem askE_zero {e : Int} {b : Bool} {c : Int} (hc : c ≠ 0) (h : askE e b c = 0) : e = 0 ∧ b = false := by
 unfold askE at h
 split at h
 ·split at h
  ·exact absurd h hc
  ·rename_i h1 h2; exact ⟨h1, by simpa using h2⟩
 ·rename_i h1; exact absurd h h1
theorem keyS_len {cols : List S78} {l : List ByteArray} (h : askE (askE 0 (decide (-1 ∈ colsN cols l)) 71) (!distP [] (colsN cols l)) 70 = 0) : (colsN cols l).length ≤ cols.length := by
 obtain ⟨h1, h2⟩ := askE_zero (by decide) h
 obtain ⟨_, h3⟩ := askE_zero (by decide) h1
 have h4 : -1 ∉ colsN cols l := by simpa using h3
 have h5 : distP [] (colsN cols l) = true := by simpa using h2
 exact nodup_len _ _ (distP_nodup _ _ h5).1 (fun x hx => (colsN_range cols l x hx).elim (fun e => absurd (e ▸ hx) h4) id)
theorem colP_wf (s : ByteArray) (cols : List S78) (hc : cols.length ≤ 2000000) : (Lit.int .i64 (colP s 0 cols)).wf = true := by
 have := colP_range s cols 0
 have e1 : IntKind.i64.min = -9223372036854775808 := by decide
 have e2 : IntKind.i64.max = 9223372036854775807 := by decide
 show (decide (IntKind.i64.min ≤ colP s 0 cols) && decide (colP s 0 cols ≤ IntKind.i64.max)) = true
 rw [e1, e2, Bool.and_eq_true, decide_eq_true_eq, decide_eq_true_eq]
 omega
set_option maxHeartbeats 4000000 in
set_option maxRecDepth 100000 in
theorem key_walk (g base : Nat) (b : Value) (nm : ByteArray) (cols : List S78) (keys : List (List Int)) (refs : List S75) (A0 : Option Addr) (c0 : Nat) (l : List ByteArray) (w : World) (hB : Bd g base b nm cols keys refs 0 w) (hr0 : Kd.C Kd.string w A0 l.length l) (hc0 : l.length ≤ c0) (hs : l.length ≤ 2000000) (hcl : cols.length ≤ 8) (hkl : keys.length ≤ 2000000) :
  Calls Tryz.prog 67 #[.pointer (some ⟨g, 0, none⟩), .slice A0 l.length c0] w fun e w' => e = .returned (.tuple #[]) ∧ Bd g base b nm cols (keyS cols keys l).1 refs (keyS cols keys l).2 w' ∧ Below base w w' := by
 obtain ⟨hbg, v1, v2, v3, hb, h1, h2, h3⟩ := hB
 obtain ⟨A1, c1, e1⟩ := Kd.R_slice h1
 obtain ⟨A2, c2, e2⟩ := Kd.R_slice h2
 obtain ⟨A3, c3, e3⟩ := Kd.R_slice h3
 subst e1 e2 e3
 obtain ⟨_, hc1, hC1⟩ := Kd.R_reads' h1
 have HNUM := Aside0.mk (numbers_walk g b (.string nm) (.slice A1 cols.length c1) (.slice A2 keys.length c2) (.slice A3 refs.length c3) (.slice none 0 0) 0 nm A1 c1 cols A2 keys.length c2 A3 refs.length c3 none 0 0 A0 c0 l w hb hC1 hc1 hr0 hc0 hs)
 obtain ⟨z0, z1, z2, z3, z4, z5, z6, zf⟩ := seven_at hb
 have HBG := Aside0.mk hbg
 have HBK := Aside0.mk hb
 have H1 := Aside0.mk h1
 have H2 := Aside0.mk h2
 have H3 := Aside0.mk h3
 have hgs := blk_lt hb
 have HGS := Aside0.mk hgs
 have HBW : Aside0 (base ≤ w.heap.size) := ⟨by omega⟩
 have HWF := Aside0.mk (fun (x : Int) (hx : x ∈ colsN cols l) => (by
  unfold colsN at hx
  obtain ⟨s, _, rfl⟩ := List.mem_map.1 hx
  exact colP_wf s cols (by omega) : (Lit.int .i64 x).wf = true))
 have HLEN := Aside0.mk (fun h => keyS_len (cols := cols) (l := l) h)
 clear hb h1 h2 h3 hC1 hr0 hbg hgs
 unfold keyS
 generalize colsN cols l = n at *
 generalize hp : decide (-1 ∈ n) = p at *
 have HD : Aside0 (∀ (A : Option Addr) (c : Nat) (W : World), n.length ≤ c → Kd.C (Kd.int .i64) W A n.length n → Calls Tryz.prog 116 #[.slice A n.length c] W fun e w' => e = .returned (.bool (distP [] n)) ∧ Below W.heap.size W w') := ⟨fun A c W hc hC => scheme_distinct_int.calls A c n (distP [] n) W hC hc (by unfold scheme_distinct_int.f; rw [if_pos (List.all_eq_true.2 HWF.out)])⟩
 clear hp HWF
 generalize distP [] n = q at *
 by_cases he : askE (askE 0 p 71) (!q) 70 = 0
 case neg =>
  rw [if_neg he]
  have d1 : (askE (askE 0 p 71) (!q) 70 == 0) = false := beq_eq_false_iff_ne.mpr he
  clear he HLEN
  go_enter Tryz.func67, Tryz.ntmps67
  go_wp2_with (first
   | (go_at_call 115; refine HNUM.out.mono ?_; rintro e w1 ⟨A5, c5, rfl, hn1, hb1, hg1⟩; have HN1 := Aside0.mk (Kd.R_reads' hn1); have HB1 := Aside0.mk hb1; have HG1 := Aside0.mk hg1; clear hn1 hb1 hg1)
   | (go_at_call 116; refine (HD.out _ _ _ HN1.out.2.1 HN1.out.2.2).mono ?_; rintro e w2 ⟨rfl, hb2⟩; have HB2 := Aside0.mk ((hb2.block g (blk_lt HB1.out)).trans HB1.out); have HG2 := Aside0.mk (grown_trans HG1.out (grown_below hb2 _)); clear hb2)
   | (go_at_call 63; refine (ask_walk g _ _ _ _ _ _ _ _ _ _ HB2.out).mono ?_; rintro e w3 ⟨rfl, hb3, hg3⟩; have HB3 := Aside0.mk hb3; have HG3 := Aside0.mk (grown_trans HG2.out hg3); clear hb3 hg3))
  go_end0
  exact ⟨rfl, ⟨HBG.out, _, _, _, HB3.out, R_but H1.out HBK.out (by decide) HG3.out, R_but H2.out HBK.out (by decide) HG3.out, R_but H3.out HBK.out (by decide) HG3.out⟩, grown_belowB HG3.out HBW.out HBG.out⟩
 case pos =>
  rw [if_pos he]
  have d1 : (askE (askE 0 p 71) (!q) 70 == 0) = true := beq_iff_eq.mpr he
  have hnl := HLEN.out he
  have HE := Aside0.mk he
  have HSO : Aside0 (∀ (A : Option Addr) (c : Nat) (bs : Nat) (W : World), (Kd.int .i64).R 3 W bs (fun _ => True) (.slice A n.length c) n → Calls Tryz.prog 117 #[.slice A n.length c] W fun e w' => e = .returned (.tuple #[]) ∧ (Kd.int .i64).R 3 w' bs (fun _ => True) (.slice A n.length c) (sortI n) ∧ W.grownBy w' (Value.slice A n.length c).ownBlock) := ⟨fun A c bs W h => sort_walk A c n (sortI n) bs (fun _ => True) W h (by omega) (sortI_perm n) (sortI_sorted n)⟩
  clear he HLEN
  go_enter Tryz.func67, Tryz.ntmps67
  go_wp2_with (first
   | (go_at_call 115; refine HNUM.out.mono ?_; rintro e w1 ⟨A5, c5, rfl, hn1, hb1, hg1⟩; have HN1 := Aside0.mk (Kd.R_reads' hn1); have HN1R := Aside0.mk hn1; have HB1 := Aside0.mk hb1; have HG1 := Aside0.mk hg1; clear hn1 hb1 hg1)
   | (go_at_call 116; refine (HD.out _ _ _ HN1.out.2.1 HN1.out.2.2).mono ?_; rintro e w2 ⟨rfl, hb2⟩; have HN2R := Aside0.mk (Kd.R_below HN1R.out hb2); have HB2 := Aside0.mk ((hb2.block g (blk_lt HB1.out)).trans HB1.out); have HG2 := Aside0.mk (grown_trans HG1.out (grown_below hb2 _)); clear hb2)
   | (go_at_call 63; refine (ask_walk g _ _ _ _ _ _ _ _ _ _ HB2.out).mono ?_; rintro e w3 ⟨rfl, hb3, hg3⟩; have HN3R := Aside0.mk (R_but HN2R.out HB2.out (by decide) hg3); have HB3 := Aside0.mk hb3; have HG3 := Aside0.mk (grown_trans HG2.out hg3); clear hb3 hg3)
   | (go_at_call 117; refine (HSO.out A5 c5 _ w3 HN3R.out).mono ?_; rintro e w4 ⟨rfl, hn4, hg4⟩; have HN4R := Aside0.mk hn4; have HNE := Aside0.mk (Kd.R_ne HN3R.out HB3.out (by decide)); have HB4 := Aside0.mk (blk_grown HB3.out hg4 HNE.out); have HG4 := Aside0.mk (grown_fresh HG3.out hg4 (fun j hj => Kd.R_base HN3R.out j hj)); obtain ⟨y0, y1, y2, y3, y4, y5, y6, yf⟩ := seven_at HB4.out; have H24 := Aside0.mk (R_but H2.out HBK.out (by decide) HG4.out); clear hn4 hg4)
   | ((with_reducible refine gate_builtin (b := .append) (xs := #[.tmp 24, .tmp 26]) rfl ?_); at_builtin; refine Kd.R_append (Kd.slice 3 (Kd.int .i64)) (w0 := w4) base rfl (.tmp 24) (.tmp 26) 68 70 (.slice none 0 0) 24 rfl Tryz.underlying68 info70 rfl (by decide) (by omega) (.slice A2 keys.length c2) keys (sortI n) [.slice A5 n.length c5] (fun _ => True) (fun k => w.heap.size ≤ k) rfl rfl (Kd.M_row (Kd.R_lower (Kd.R_mono (Kd.R_bound HN4R.out) (fun k hk => hk.2.1)) HBW.out)) (fun k hk => ⟨trivial, fun he => by have := Kd.R_lt H2.out k he.symm; omega⟩) (fun _ _ => trivial) H24.out (Below.refl _ _) (Nat.le_trans HBW.out HG4.out.size) (by omega) ?_; intro v9 w5 hv9 _ hg5 _; obtain ⟨A6, c6, e6⟩ := Kd.R_slice hv9; subst e6; have HV := Aside0.mk hv9; have HG5 := Aside0.mk hg5; have HB5 := Aside0.mk (blk_grown HB4.out hg5 (Kd.R_ne H24.out HB4.out (by decide))); obtain ⟨x0, x1, x2, x3, x4, x5, x6, xf⟩ := seven_at HB5.out; clear hv9 hg5))
  have H15 := Kd.R_over' (R_but H1.out HBK.out (by decide) HG4.out) (Kd.R_typed H24.out) (by decide) HG5.out
  have H35 := Kd.R_over' (R_but H3.out HBK.out (by decide) HG4.out) (Kd.R_typed H24.out) (by decide) HG5.out
  have HE0 := HE.out
  rw [HE0] at HB5
  have HV2 := HV.out
  rw [show (keys ++ [sortI n]).length = keys.length + 1 by simp] at HV2
  go_end0
  refine ⟨rfl, ⟨HBG.out, _, _, _, blk_put HB5.out 3 _ rfl, Kd.R_set H15 HB5.out (by decide) 3 _, Kd.R_set HV2 HB5.out (by decide) 3 _, Kd.R_set H35 HB5.out (by decide) 3 _⟩, ?_⟩
  exact ((grown_belowB HG4.out HBW.out HBG.out).grown HG5.out (Nat.le_trans HBW.out HG4.out.size) (fun k hk => Kd.R_base H24.out k hk)).setCell (p := ⟨g, 3, none⟩) HBG.out _
theorem isKey_walk (A : Option Addr) (c : Nat) (key : List Int) (a : Nat) (As : Option Addr) (cs : Nat) (so : List Int) (w : World) (hC : Kd.C (Kd.int .i64) w A key.length key) (hc : key.length ≤ c) (hS : Kd.C (Kd.int .i64) w As so.length so) (hcs : so.length ≤ cs) (hx : w.cell? ⟨a, 0, none⟩ = some (.slice As so.length cs)) :
  Calls Tryz.prog 121 #[.slice A key.length c, .pointer (some ⟨a, 0, none⟩)] w fun e w' => e = .returned (.bool (eqI key so)) ∧ Below w.heap.size w w' := by
 have HN := Aside0.mk (equal_walk A c key As cs so w hC hc hS hcs)
 clear hC hS
 go_enter Tryz.func121, Tryz.ntmps121
 go_wp2_with (go_at_call 122; refine HN.out.mono ?_; rintro e w1 ⟨rfl, hb1⟩)
 go_ret
 exact ⟨rfl, hb1⟩
set_option maxRecDepth 100000 in
theorem idxKey_walk (A : Option Addr) (c : Nat) (l : List (List Int)) (a : Nat) (As : Option Addr) (cs : Nat) (so : List Int) (w : World) (hC : Kd.C (Kd.slice 3 (Kd.int .i64)) w A l.length l) (hc : l.length ≤ c) (hS : Kd.C (Kd.int .i64) w As so.length so) (hcs : so.length ≤ cs) (hx : w.cell? ⟨a, 0, none⟩ = some (.slice As so.length cs)) :
  Calls Tryz.prog 120 #[.slice A l.length c, .func (.func 121) #[] #[.pointer (some ⟨a, 0, none⟩)]] w fun e w' => e = .returned (.int .i64 (idxP (fun key => eqI key so) 0 l)) ∧ Below w.heap.size w w' := by
 have HC := Aside0.mk hC
 have HF : Aside0 (∀ (A : Option Addr) (c : Nat) (key : List Int) (W : World), Below w.heap.size w W → Kd.C (Kd.int .i64) W A key.length key → key.length ≤ c → Calls Tryz.prog 121 #[.slice A key.length c, .pointer (some ⟨a, 0, none⟩)] W fun e w' => e = .returned (.bool (eqI key so)) ∧ Below W.heap.size W w') := ⟨fun A c key W hW hk hck => isKey_walk A c key a As cs so W hk hck (Kd.C_below hS hW) hcs ((hW.cell (World.block_lt_of_cell? w _ hx)).trans hx)⟩
 have HB0 := Aside0.mk (Below.refl w.heap.size w)
 clear hC hS hx
 generalize hp0 : (fun key => eqI key so) = p at *
 have HPE : Aside0 (∀ key, eqI key so = p key) := ⟨fun key => by rw [← hp0]⟩
 clear hp0
 go_enter Tryz.func120, Tryz.ntmps120
 go_wp2
 go_loopg [8] l.length (fun gk v8 wx => ∃ (i : Nat), i + gk = l.length ∧ v8 = .int .i64 i ∧ Aside0 (Below w.heap.size w wx) ∧ Aside0 (idxP p 0 l = idxP p i (l.drop i)))
 case atStart => exact ⟨0, by omega, rfl, HB0, ⟨by simp⟩⟩
 case round =>
  clear HB0
  obtain ⟨i, hi, rfl, HW, HP⟩ := hrel
  cases gk with
  | zero =>
   have e : l.drop i = [] := List.drop_eq_nil_of_le (by omega)
   have hp := HP.out
   rw [e] at hp
   have hii : ¬ (i : Int) < (l.length : Int) := by omega
   go_wp2
   go_ret
   exact ⟨by first | rfl | (rw [hp]; rfl), HW.out⟩
  | succ gk =>
   have hlt : i < l.length := by omega
   have hii : (i : Int) < (l.length : Int) := by omega
   have hi0 : (0 : Int) ≤ (i : Int) := by omega
   have hdr : l.drop i = l[i] :: l.drop (i + 1) := List.drop_eq_getElem_cons hlt
   have hrd : rd_L6 l (i : Int) = l[i] := by unfold rd_L6; simp [List.getD, hlt]
   obtain ⟨ad2, A0, c0, hA, hx0, hl0, hC0⟩ := at_L6 HC.out (i : Int) hi0 hii
   cases hA
   rw [hrd] at hx0 hl0 hC0
   rw [Int.toNat_natCast] at hx0
   have hy0 := (HW.out.cell (World.block_lt_of_cell? w _ hx0)).trans hx0
   have hp := HP.out
   rw [hdr, idxP] at hp
   generalize l[i] = x at *
   have HN := Aside0.mk (HF.out A0 c0 x wr HW.out (Kd.C_below hC0 HW.out) hl0)
   rw [HPE.out x] at HN
   clear hx0 hC0
   cases hh : p x with
   | true =>
    rw [hh] at HN
    rw [if_pos hh] at hp
    clear hh
    go_wp2_with (go_at_call 121; refine HN.out.mono ?_; rintro e w1 ⟨rfl, hb1⟩)
    go_ret
    exact ⟨by first | rfl | (rw [hp]; rfl), below_step HW.out hb1⟩
   | false =>
    rw [hh] at HN
    rw [if_neg (by rw [hh]; decide)] at hp
    clear hh
    go_wp2_with (go_at_call 121; refine HN.out.mono ?_; rintro e w1 ⟨rfl, hb1⟩)
    go_roundg gk
    case measure => omega
    case rel => exact ⟨i + 1, by omega, by first | rfl | (simp; done) | (have := HC.out.2.1; simp; unfold wrap64; omega), ⟨below_step HW.out hb1⟩, ⟨hp⟩⟩
end Go.Proofs.YthgfdnffnbclpaaGreatDoor.PAll
