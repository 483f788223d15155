import Derived.Test.YthgfdnffnbclpaaGreatDoorSQG17
set_option linter.unusedVariables false
set_option linter.unusedSimpArgs false
namespace Go.Proofs.YthgfdnffnbclpaaGreatDoor.PAll
open Go.RowKit Go.Proofs.YthgfdnffnbclpaaGreatDoorW.PrintWords Go.Proofs.YthgfdnffnbclpaaGreatDoorW.PrintLast Go.Proofs.YthgfdnffnbclpaaGreatDoorW.PrintMore
theorem R_cur {W : World} {base : Nat} {ok : Nat → Prop} {g n cap : Nat} {l : List Int} (h : Kd.R (Kd.int .i64) 3 W base ok (.slice (some ⟨g, 0, none⟩) n cap) l) :
  ∃ cur : Array Value, W.heap[g]? = some (.cells cur 3 (0, 0)) ∧ cur.size = cap ∧ cur.toList.take n = l.map (Value.int .i64) ∧ n = l.length ∧ n ≤ cap ∧ cap ≤ maxLen ∧ base ≤ g ∧ ok g := by
 have hn := (Kd.R_reads' h).1
 obtain ⟨_, ho⟩ := Kd.own_of_R h
 rcases ho with ⟨hv, _⟩ | ⟨g', cap', cur, hv, hb, hh, hnc, hcm, hcs, ht⟩
 ·cases hv
 injection hv with ha _ hc
 injection ha with ha
 injection ha with hg
 subst hg; subst hc
 exact ⟨cur, hh, by rw [hcs, Nat.mul_one], by rw [hn, ← Nat.mul_one l.length]; exact ht, hn, by rw [hn]; exact hnc, hcm, hb, h.1 _ (by simp [Value.ownBlock])⟩
theorem R_ofcur {W : World} {base : Nat} {ok : Nat → Prop} {g cap : Nat} {l : List Int} {cur : Array Value} (h1 : W.heap[g]? = some (.cells cur 3 (0, 0))) (h2 : cur.size = cap) (h3 : cur.toList.take l.length = l.map (Value.int .i64)) (h4 : l.length ≤ cap) (h5 : cap ≤ maxLen) (h6 : base ≤ g) (h7 : ok g) :
  Kd.R (Kd.int .i64) 3 W base ok (.slice (some ⟨g, 0, none⟩) l.length cap) l :=
 Kd.R_of_own ⟨by rw [encs_length, Nat.mul_one], Or.inr ⟨g, cap, cur, rfl, h6, h1, h4, h5, by rw [h2, Nat.mul_one], by rw [Nat.mul_one]; exact h3⟩⟩ (fun k hk => by
  have : g = k := by simpa [Value.ownBlock] using hk
  subst this; exact h7)
section
variable {P : Program} {ops : Array Oper} {Q : Exit → Act → World → Prop} {rest : List Oper} {o : Oper} {a : Act} {w : World}
theorem wpList_append_run (hg : o.guard = none) (s x : Operand) (t t' ty : TypeId) (hop : o.op = .call { callee := .builtin .append, args := #[s, x], argTypes := #[t, t'] }) (hty : o.type = ty) {u : Value} {w' : World} (sv xv : Value) (hs : a.eval s = sv) (hx : a.eval x = xv)
  (hrun : (Builtin.append_ #[t, t'] ty #[sv, xv]).run P w = .ok u w') (hK : wpList P ops Q rest (a.put o.dst u) w') : wpList P ops Q (o :: rest) a w := by
 subst hty
 refine wpList_plain hg fun K' hK' => ?_
 unfold Oper.wp execOp
 simp only [hop, resolve, invoke, builtin, Sem.run_bind, Sem.run_pure, Result.andThen_ok, List.map_toArray, List.map_cons, List.map_nil, hs, hx, hrun]
 exact hK' _ _ hK
theorem wpList_copy_run (hg : o.guard = none) (s x : Operand) (t t' ty : TypeId) (hop : o.op = .call { callee := .builtin .copy, args := #[s, x], argTypes := #[t, t'] }) (hty : o.type = ty) {u : Value} {w' : World} (sv xv : Value) (hs : a.eval s = sv) (hx : a.eval x = xv)
  (hrun : (Builtin.copy_ #[t, t'] ty #[sv, xv]).run P w = .ok u w') (hK : wpList P ops Q rest (a.put o.dst u) w') : wpList P ops Q (o :: rest) a w := by
 subst hty
 refine wpList_plain hg fun K' hK' => ?_
 unfold Oper.wp execOp
 simp only [hop, resolve, invoke, builtin, Sem.run_bind, Sem.run_pure, Result.andThen_ok, List.map_toArray, List.map_cons, List.map_nil, hs, hx, hrun]
 exact hK' _ _ hK
theorem step_copy_run {Kc : Act → World → Prop} (hw : Region.wanted o (yielded ops a.tmps) = true) (s x : Operand) (t t' ty : TypeId) (hop : o.op = .call { callee := .builtin .copy, args := #[s, x], argTypes := #[t, t'] }) (hty : o.type = ty) {u : Value} {w' : World} (sv xv : Value) (hs : a.eval s = sv) (hx : a.eval x = xv)
  (hrun : (Builtin.copy_ #[t, t'] ty #[sv, xv]).run P w = .ok u w') (hK : Kc (a.put o.dst u) w') : if Region.wanted o (yielded ops a.tmps) = true then Oper.wp P o a w Kc Q else Kc (a.put o.dst undef) w := by
 subst hty
 rw [if_pos hw]
 unfold Oper.wp execOp
 simp only [hop, resolve, invoke, builtin, Sem.run_bind, Sem.run_pure, Result.andThen_ok, List.map_toArray, List.map_cons, List.map_nil, hs, hx, hrun]
 exact hK
theorem run_zeros_grow (ty : TypeId) (base : Nat) (g cap n m : Nat) (xs : List Value) (hown : w.ownsRow base 3 1 (.slice (some ⟨g, 0, none⟩) n cap) n xs) (hm : 0 < m) (hroom : cap < n + m) (hbytes : (n + m) * 8 ≤ 140737488355328) :
  ∃ C w', (Builtin.append_ #[70, 3] ty #[.slice (some ⟨g, 0, none⟩) n cap, .int .i64 m]).run Tryz.prog w = .ok (.slice (some ⟨w.heap.size, 0, none⟩) (n + m) C) w' ∧
   w'.ownsRow w.heap.size 3 1 (.slice (some ⟨w.heap.size, 0, none⟩) (n + m) C) (n + m) (xs ++ List.replicate m (.int .i64 0)) ∧ w.grownBy w' none := by
 obtain ⟨i, hi, hz, hsize, hby⟩ := info_parts (P := Tryz.prog) info3
 have ht := Tryz.underlying70
 have hti := Tryz.underlying3
 have hw : IntKind.i64.wrap (m : Int) = m := by rw [IntKind.wrap_i64]; omega
 have hneg : ¬ ((m : Int) < 0) := by omega
 have hbig : ¬ (281474976710656 < (m : Int) * (8 : Int)) := by omega
 have h63 : n + m ≤ maxLen := by simp only [maxLen]; omega
 have h63' : ¬ (9223372036854775807 < ((n : Int) + (m : Int))) := by omega
 have hzc : Builtin.zeroCells (Value.cells (.int .i64 0)) m = (List.replicate m (Value.int .i64 0)).toArray := by
  apply Array.ext'
  apply List.ext_getElem
  ·simp [Builtin.zeroCells, Value.cells]
  ·intro j h1 h2
   simp [Builtin.zeroCells, Value.cells, Nat.mod_one]
 rcases hown.2 with ⟨hv, _⟩ | ⟨g', cap', cur, hv, hbg, hg, hnc, hcm, hcs, htake⟩
 ·cases hv
 have holds : ∀ j u, xs[j]? = some u → w.cell? ((⟨g, 0, none⟩ : Addr).add j) = some u := hown.cells (g := g) rfl
 have hfo : (Builtin.firstCells 1 n (.slice (some ⟨g, 0, none⟩) n cap)).run Tryz.prog w.drew = .ok xs.toArray w.drew := run_firstCells_some (P := Tryz.prog) w.drew 1 n _ n cap xs hown.1 (by simpa using holds)
 have hn : ¬ (n + m ≤ cap) := by omega
 have hfit := growslice_fits hroom hbytes
 have h48' : ¬ (281474976710656 < Builtin.nextslicecap (n + m) cap * 8) := by omega
 have hmz : ¬ (m = 0) := by omega
 have hge := grownCap_ge w (n + m) cap 3
 have hcm2 : grownCap w (n + m) cap 3 ≤ maxLen := grownCap_le_maxLen w (n + m) cap 3 h63
 have hxl : xs.length = n := by have := hown.1; omega
 refine ⟨grownCap w (n + m) cap 3, w.drew.alloc (.cells (xs.toArray ++ (List.replicate m (Value.int .i64 0)).toArray ++ Builtin.zeroCells (Value.cells (.int .i64 0)) (grownCap w (n + m) cap 3 - (n + m))) 3), ?_, ⟨by simp [hxl], .inr ⟨w.heap.size, _, _, rfl, Nat.le_refl _, heap_alloc_new w.drew _, hge, hcm2, ?_, ?_⟩⟩, ⟨rfl, rfl, rfl, by simp, fun k hk _ => heap_alloc_old w.drew _ hk⟩⟩
 ·simp [Builtin.append_, run_underlying ht, run_underlying hti, sizeOf, typeInfo, zeroValue, hi, hz, hsize, hby, asInt, asIntOf, hw, hneg, hbig, hn, h63', h48', Question.forced, hfo, newRow, grownCap, hmz, hzc]
 ·simp [size_zeroCells, Value.cells, hxl]; omega
 ·simp only [Array.toList_append, List.append_assoc, Nat.mul_one]
  rw [← List.append_assoc, show n + m = (xs ++ List.replicate m (Value.int .i64 0)).length by simp [hxl]]
  exact List.take_left
end
theorem overlaps_is : Extern.find Tryz.f94 = some (Extern.SlicesOverlaps.overlaps #[70, 70] #[4]) := by kernel_rfl
theorem overlaps_run (w : World) (g gs o la ca lb cb : Nat) (t t' : TypeId) (ca' cb' : Array Value) (h1 : w.heap[gs]? = some (.cells ca' t (0, 0))) (h2 : w.heap[g]? = some (.cells cb' t' (0, 0))) (hne : gs ≠ g) :
  (callFunc 94 #[.slice (some ⟨gs, 0, none⟩) la ca, .slice (some ⟨g, o, none⟩) lb cb]).run Tryz.prog w = .ok (.value (.bool false)) w := by
 rw [run_callFunc_extern Tryz.func94 (by kernel_rfl) (by kernel_rfl) (by kernel_rfl) overlaps_is]
 have e1 : w.shape? gs = some (t, ca'.size) := by simp [World.shape?, h1]
 have e2 : w.shape? g = some (t', cb'.size) := by simp [World.shape?, h2]
 have f1 : ∀ j, w.frozen? ⟨gs, j, none⟩ = false := fun j => blk_frozen h1 j
 have f2 : ∀ j, w.frozen? ⟨g, j, none⟩ = false := fun j => blk_frozen h2 j
 have hu := Tryz.underlying70
 have hz := Tryz.sizeOf3
 have hne2 : (gs == g) = false := beq_eq_false_iff_ne.mpr hne
 have hne3 : (gs != g) = true := by rw [bne, hne2]; rfl
 have hrun : (Extern.SlicesOverlaps.overlaps #[70, 70] #[4] #[.slice (some ⟨gs, 0, none⟩) la ca, .slice (some ⟨g, o, none⟩) lb cb]).run Tryz.prog w = .ok (.bool false) w := by
  refine (show Sem.run Tryz.prog (underlying 70 >>= _) w = _ from ?_)
  rw [Sem.run_bind, run_underlying hu]
  by_cases q : la = 0 ∨ lb = 0
  ·rcases q with q | q <;> simp [run_underlying hu, hz, q]
  ·have q1 : ¬ la = 0 := fun h => q (Or.inl h)
   have q2 : ¬ lb = 0 := fun h => q (Or.inr h)
   simp [run_underlying hu, hz, q1, q2, hne, hne2, hne3, f1, f2, e1, e2, noView, viewAt, mayBeOne, stringish]
 rw [hrun]
 rfl
theorem below_step0 {base : Nat} {w W : World} (h : Below base w W) : Below base w W.drew := below_drew h
theorem wrap_succ {k n : Nat} (h : k ≤ n) (hn : n ≤ 2000000) : wrap64 ((k : Int) + 1) = (k : Int) + 1 := by unfold wrap64; omega
theorem ins_cells (L D T : List Value) (k : Nat) (x : Value) (h : k + 1 ≤ L.length) : (L.take (k + 1) ++ D ++ T).take k ++ [x] ++ (L.take (k + 1) ++ D ++ T).drop (k + 1) = L.take k ++ [x] ++ (D ++ T) := by
 have hL : (L.take (k + 1)).length = k + 1 := by rw [List.length_take]; omega
 have e1 : (L.take (k + 1) ++ (D ++ T)).take k = L.take k := by rw [List.take_append_of_le_length (by rw [hL]; omega), List.take_take, Nat.min_eq_left (by omega)]
 have e2 : (L.take (k + 1) ++ (D ++ T)).drop (k + 1) = D ++ T := List.drop_left' hL
 rw [List.append_assoc (L.take (k + 1)) D T, e1, e2]
theorem cells_of {w : World} {g cap : Nat} {l : List Int} {cur : Array Value} (hcs : cur.size = cap) (hct : cur.toList.take l.length = l.map (Value.int .i64)) (hcur : w.heap[g]? = some (.cells cur 3 (0, 0))) :
  (∀ j (h : j < l.length), w.cell? ⟨g, j, none⟩ = some (.int .i64 l[j])) ∧ ∀ j, j < cap → (w.cell? ⟨g, j, none⟩).isSome = true := by
 refine ⟨fun j h => ?_, fun j h => ?_⟩
 ·rw [cell_of_row w g _ cur 3 (0, 0) hcur, ← Array.getElem?_toList]
  have h1 : (cur.toList.take l.length)[j]? = (l.map (Value.int .i64))[j]? := by rw [hct]
  rw [List.getElem?_take, if_pos h, List.getElem?_map, List.getElem?_eq_getElem h] at h1
  exact h1
 ·rw [cell_of_row w g _ cur 3 (0, 0) hcur, Array.getElem?_eq_getElem (by omega)]
  rfl
set_option maxHeartbeats 4000000 in
set_option maxRecDepth 100000 in
theorem insOne_walk (A : Option Addr) (cap : Nat) (l : List Int) (k : Nat) (x : Int) (gs base : Nat) (ok : Nat → Prop) (w : World) (hR : Kd.R (Kd.int .i64) 3 w base ok (.slice A l.length cap) l) (hk : k ≤ l.length) (hsb : w.heap[gs]? = some (.cells #[.int .i64 x] 3 (0, 0))) (hgs : ¬ ok gs) (hl : l.length ≤ 2000000) (hbw : base ≤ w.heap.size) :
  Calls Tryz.prog 46 #[.slice A l.length cap, .int .i64 k, .slice (some ⟨gs, 0, none⟩) 1 1] w fun e w' => ∃ v', e = .returned v' ∧ Kd.R (Kd.int .i64) 3 w' base (fun q => ok q ∨ w.heap.size ≤ q) v' (l.take k ++ x :: l.drop k) ∧ w.heap.size ≤ w'.heap.size ∧ (∀ q, q < w.heap.size → ¬ ok q → w'.heap[q]? = w.heap[q]?) ∧ Below base w w' := by
 have hcap := (Kd.R_reads' hR).2.1
 have hgc : w.cell? ⟨gs, 0, none⟩ = some (.int .i64 x) := (blk_cell hsb 0).trans rfl
 have HC1 : Aside0 (Kd.C (Kd.int .i64) w (some ⟨gs, 0, none⟩) 1 [x]) := ⟨⟨rfl, by omega, fun _ => ⟨⟨gs, 0, none⟩, rfl, fun j p hj => by
  have hj0 : j = 0 := by have := (List.getElem?_eq_some_iff.1 hj).1; simp at this; omega
  subst hj0
  have hp : p = x := by simpa using hj.symm
  subst hp
  refine ⟨[.int .i64 p], rfl, rfl, fun i u hu => ?_⟩
  have hi0 : i = 0 := by have := (List.getElem?_eq_some_iff.1 hu).1; simp at this; omega
  subst hi0
  have hu2 : u = .int .i64 p := by simpa using hu.symm
  subst hu2
  exact hgc⟩⟩⟩
 have HR := Aside0.mk hR
 have HSB := Aside0.mk hsb
 by_cases q : k = l.length
 ·subst q
  have d1 : ((l.length : Int) == (l.length : Int)) = true := beq_iff_eq.mpr rfl
  rw [List.take_length, List.drop_length]
  clear hsb hgc hk
  cases A with
  | none =>
   have hl0 : l = [] := by
    cases l with
    | nil => rfl
    | cons y l => obtain ⟨g, cap', ev, _⟩ := Kd.R_form hR (by simp); cases ev
   subst hl0
   have hcap0 : cap = 0 := by
    obtain ⟨_, ho⟩ := Kd.own_of_R hR
    rcases ho with ⟨hv, _⟩ | ⟨g', cap', cur, hv, _⟩
    ·injection hv
    ·cases hv
   subst hcap0
   clear hR
   go_enter Tryz.func46, Tryz.ntmps46
   go_wp2_with ((with_reducible refine gate_builtin (b := .append) (xs := #[.tmp 23, .tmp 24]) rfl ?_); at_builtin; refine Kd.R_append_rows (Kd.int .i64) (w0 := w) base rfl (.tmp 23) (.tmp 24) 70 3 (.int .i64 0) 8 rfl Tryz.underlying70 info3 rfl (by decide) (by omega) (.slice none 0 0) [] [x] _ _ _ (fun q_ => ok q_ ∨ w.heap.size ≤ q_) (fun _ => False) rfl rfl ?aO ?aR (fun _ _ h => h) (fun _ h => h.elim) ?aF ?aB ?aS ?aL ?_; (case aR => exact HC1.out); (case aB => exact Below.refl _ _); (case aF => exact (fun _ hq => Or.inr hq)); (case aO => exact Kd.R_mono HR.out (fun _ h => Or.inl h)); (case aS => exact hbw); (case aL => first | omega | (simp; omega) | (simp; done)); intro v7 w8 ho hb hg hat; have HO7 := Aside0.mk ho; have HB8 := Aside0.mk hb; have HG8 := Aside0.mk hg; clear ho hb hg hat)
   go_ret
   exact ⟨_, rfl, HO7.out, HG8.out.size, fun q hq hn => HG8.out.block q hq (fun he => hn (HR.out.1 q he.symm)), HB8.out⟩
  | some a =>
   by_cases e : cap = l.length
   ·subst e
    clear hR
    go_enter Tryz.func46, Tryz.ntmps46
    go_wp2_with ((with_reducible refine gate_builtin (b := .append) (xs := #[.tmp 23, .tmp 24]) rfl ?_); at_builtin; refine Kd.R_append_rows (Kd.int .i64) (w0 := w) base rfl (.tmp 23) (.tmp 24) 70 3 (.int .i64 0) 8 rfl Tryz.underlying70 info3 rfl (by decide) (by omega) (.slice (some a) l.length l.length) l [x] _ _ _ (fun q_ => ok q_ ∨ w.heap.size ≤ q_) (fun _ => False) rfl rfl ?aO ?aR (fun _ _ h => h) (fun _ h => h.elim) ?aF ?aB ?aS ?aL ?_; (case aR => exact HC1.out); (case aB => exact Below.refl _ _); (case aF => exact (fun _ hq => Or.inr hq)); (case aO => exact Kd.R_mono HR.out (fun _ h => Or.inl h)); (case aS => exact hbw); (case aL => first | omega | (simp; omega) | (simp; done)); intro v7 w8 ho hb hg hat; have HO7 := Aside0.mk ho; have HB8 := Aside0.mk hb; have HG8 := Aside0.mk hg; clear ho hb hg hat)
    go_ret
    exact ⟨_, rfl, HO7.out, HG8.out.size, fun q hq hn => HG8.out.block q hq (fun he => hn (HR.out.1 q he.symm)), HB8.out⟩
   ·have hce : ¬ l.length = cap := fun h => e h.symm
    clear hR
    go_enter Tryz.func46, Tryz.ntmps46
    go_wp2_with ((with_reducible refine gate_builtin (b := .append) (xs := #[.tmp 23, .tmp 24]) rfl ?_); at_builtin; refine Kd.R_append_rows (Kd.int .i64) (w0 := w) base rfl (.tmp 23) (.tmp 24) 70 3 (.int .i64 0) 8 rfl Tryz.underlying70 info3 rfl (by decide) (by omega) (.slice (some a) l.length cap) l [x] _ _ _ (fun q_ => ok q_ ∨ w.heap.size ≤ q_) (fun _ => False) rfl rfl ?aO ?aR (fun _ _ h => h) (fun _ h => h.elim) ?aF ?aB ?aS ?aL ?_; (case aR => exact HC1.out); (case aB => exact Below.refl _ _); (case aF => exact (fun _ hq => Or.inr hq)); (case aO => exact Kd.R_mono HR.out (fun _ h => Or.inl h)); (case aS => exact hbw); (case aL => first | omega | (simp; omega) | (simp; done)); intro v7 w8 ho hb hg hat; have HO7 := Aside0.mk ho; have HB8 := Aside0.mk hb; have HG8 := Aside0.mk hg; clear ho hb hg hat)
    go_ret
    exact ⟨_, rfl, HO7.out, HG8.out.size, fun q hq hn => HG8.out.block q hq (fun he => hn (HR.out.1 q he.symm)), HB8.out⟩
 ·have hkl : k < l.length := by omega
  obtain ⟨g, cap', ev, _⟩ := Kd.R_form hR (by omega)
  simp only [Value.slice.injEq, true_and] at ev
  obtain ⟨eA, eC⟩ := ev
  subst eA
  subst eC
  obtain ⟨cur, hcur, hcs, hct, _, _, hcm, hbg, hog⟩ := R_cur hR
  have hgg : gs ≠ g := fun e => hgs (e ▸ hog)
  have d1 : ((k : Int) == (l.length : Int)) = false := beq_eq_false_iff_ne.mpr (by omega)
  have hki : (k : Int) < (l.length : Int) := by omega
  by_cases qc : l.length + 1 ≤ cap
  ·have d2 : decide ((cap : Int) < (l.length : Int) + 1) = false := decide_eq_false (by omega)
   clear hR hsb hgc
   go_enter Tryz.func46, Tryz.ntmps46
   have hck : ¬ cap = k + 1 := by omega
   have hck0 : ¬ cap = k := by omega
   have hov : ∀ o la ca lb cb, (callFunc 94 #[.slice (some ⟨gs, 0, none⟩) la ca, .slice (some ⟨g, o, none⟩) lb cb]).run Tryz.prog w = .ok (.value (.bool false)) w := fun o la ca lb cb => overlaps_run w g gs o la ca lb cb 3 3 _ _ HSB.out hcur hgg
   have hcl := cells_of hcs hct hcur
   have hlen1 : (l.drop k).length = l.length - k := List.length_drop
   have hr1 := run_copy_cells (P := Tryz.prog) w.drew 70 70 3 3 g (k + 1) (l.length - k) (cap - (k + 1)) ⟨g, k, none⟩ (l.length + 1 - k) (cap - k) ((l.drop k).map (Value.int .i64)) Tryz.underlying70 (by kernel_rfl) (by rw [List.length_map, hlen1]; show _ = min _ _; omega)
    (fun j u hj => by
     have hjl : j < (l.drop k).length := by have := (List.getElem?_eq_some_iff.1 hj).1; rwa [List.length_map] at this
     rw [List.getElem?_map, List.getElem?_eq_getElem hjl] at hj
     have hu : u = .int .i64 (l.drop k)[j] := by simpa using hj.symm
     rw [hu, List.getElem_drop, add_at]
     exact hcl.1 (k + j) (by omega))
    (fun j hj => by rw [List.length_map, hlen1] at hj; exact hcl.2 (k + 1 + j) (by omega)) (fun j _ => blk_frozen (w := w.drew) hcur _) (fun u hu => by obtain ⟨y, _, rfl⟩ := List.mem_map.1 hu; rfl)
   obtain ⟨D, hD⟩ : ∃ D, D = (l.drop k).map (Value.int .i64) := ⟨_, rfl⟩
   have hDl : D.length = l.length - k := by rw [hD, List.length_map, hlen1]
   rw [← hD] at hr1
   rw [hDl] at hr1
   obtain ⟨W2, hW2⟩ : ∃ W, W = w.drew.setCells g (k + 1) D := ⟨_, rfl⟩
   rw [← hW2] at hr1
   obtain ⟨cur2, c2a, c2b, c2c⟩ := setCells_row D (k + 1) w.drew cur hcur (by rw [hDl, hcs]; omega)
   have hgs2 : W2.heap[gs]? = some (.cells #[.int .i64 x] 3 (0, 0)) := by rw [hW2]; exact (setCells_far D (k + 1) gs hgg).trans HSB.out
   have hb2 : ∀ q, q ≠ g → W2.heap[q]? = w.heap[q]? := fun q hq => by rw [hW2]; exact setCells_far D (k + 1) q hq
   have hs2 : W2.heap.size = w.heap.size := by rw [hW2, (setCells_same _ _ _ _).2.2.2]; rfl
   have hB2 : Below base w W2 := by rw [hW2]; exact Go.below_setCells hbg _ _ _ (below_drew (Below.refl _ _))
   rw [← hW2] at c2a
   have hr2 := run_copy_cells (P := Tryz.prog) W2 70 70 3 3 g k (l.length + 1 - k) (cap - k) ⟨gs, 0, none⟩ 1 1 [.int .i64 x] Tryz.underlying70 (by kernel_rfl) (by show 1 = min _ _; omega)
    (fun j u hj => by
     have hj0 : j = 0 := by have := (List.getElem?_eq_some_iff.1 hj).1; simp at this; omega
     subst hj0
     have hu : u = .int .i64 x := by simpa using hj.symm
     subst hu
     exact (blk_cell hgs2 0).trans rfl)
    (fun j hj => by rw [cell_of_row W2 g _ cur2 3 (0, 0) c2a, Array.getElem?_eq_getElem (by rw [c2b, hcs]; simp at hj; omega)]; rfl) (fun j _ => blk_frozen c2a _) (by simp [Value.oneCell'])
   obtain ⟨cur3, c3a, c3b, c3c⟩ := setCells_row [.int .i64 x] k W2 cur2 c2a (by rw [c2b, hcs]; simp; omega)
   have htk : cur.toList.take k = (l.take k).map (Value.int .i64) := by
    rw [List.map_take, ← hct, List.take_take, Nat.min_eq_left (by omega)]
   have hfin : cur3.toList.take (l.take k ++ x :: l.drop k).length = (l.take k ++ x :: l.drop k).map (Value.int .i64) := by
    rw [c3c, c2c, List.length_singleton, ins_cells _ _ _ _ _ (by rw [Array.length_toList, hcs]; omega), htk, List.map_append, List.map_cons, ← hD, ← List.append_assoc]
    rw [show (l.take k).map (Value.int .i64) ++ Value.int .i64 x :: D = (l.take k).map (Value.int .i64) ++ [Value.int .i64 x] ++ D by simp]
    rw [show (l.take k ++ x :: l.drop k).length = ((l.take k).map (Value.int .i64) ++ [Value.int .i64 x] ++ D).length by simp [hD]]
    exact List.take_left
   have hRf : Kd.R (Kd.int .i64) 3 (W2.setCells g k [.int .i64 x]) base (fun q => ok q ∨ w.heap.size ≤ q) (.slice (some ⟨g, 0, none⟩) (l.take k ++ x :: l.drop k).length cap) (l.take k ++ x :: l.drop k) := R_ofcur c3a (by rw [c3b, c2b, hcs]) hfin (by simp; omega) hcm hbg (Or.inl hog)
   have hll : (l.take k ++ x :: l.drop k).length = l.length + 1 := by simp; omega
   rw [hll] at hRf
   have HF : Aside0 (Kd.R (Kd.int .i64) 3 (W2.setCells g k [.int .i64 x]) base (fun q => ok q ∨ w.heap.size ≤ q) (.slice (some ⟨g, 0, none⟩) (l.length + 1) cap) (l.take k ++ x :: l.drop k)) := ⟨hRf⟩
   have HG : Aside0 (w.heap.size ≤ (W2.setCells g k [.int .i64 x]).heap.size ∧ (∀ q, q < w.heap.size → ¬ ok q → (W2.setCells g k [.int .i64 x]).heap[q]? = w.heap[q]?) ∧ Below base w (W2.setCells g k [.int .i64 x])) := ⟨by rw [(setCells_same _ _ _ _).2.2.2, hs2]; exact Nat.le_refl _, fun q hq hn => (setCells_far _ _ q (fun e => hn (e ▸ hog))).trans (hb2 q (fun e => hn (e ▸ hog))), Go.below_setCells hbg _ _ _ hB2⟩
   have HRUN1 := Aside0.mk hr1
   have HRUN2 := Aside0.mk hr2
   clear hr1 hr2 hRf hfin htk c3a c3b c3c c2a c2b c2c hgs2 hb2 hs2 hB2 hW2 hcl hlen1 hll hcur hct hcs hD hDl
   have hw1 : wrap64 ((k : Int) + 1) = (k : Int) + 1 := by unfold wrap64; omega
   have hb1 : (0 : Int) ≤ (k : Int) + 1 := by omega
   have hb2 : (k : Int) + 1 ≤ (l.length : Int) + 1 := by omega
   have hb3 : (k : Int) ≤ (l.length : Int) + 1 := by omega
   have hb4 : ((k : Int) + 1).toNat = k + 1 := by omega
   go_upto_region 15 with (fail)
   refine start_ (n := 9) (S := fun W => True) (ds := []) #[false, false, false, false, false, false, false, false, false] (by kernel_rfl) rfl rfl trivial (fun hHeld => ?_)
   generalize w.drew = W1 at *
   refine pure_ (i := 0) (N := some 69) (v := ?_) (a' := ?_) #[true, false, false, false, false, false, false, false, false] rfl rfl (by kernel_rfl) (fun _ _ _ h => h) (Or.inl ⟨by rfl, ?_⟩) ?_ ?_
   rotate_left
   ·intro w'; go_simp; with_reducible rfl
   rotate_left
   ·simp only [Act.put, List.setIfInBounds_toArray, List.set_cons_zero, List.set_cons_succ, i64_w, i32_w]; rfl
   refine pure_ (i := 1) (N := some 70) (v := ?_) (a' := ?_) #[true, true, false, false, false, false, false, false, false] rfl rfl (by kernel_rfl) (fun _ _ _ h => h) (Or.inl ⟨by rfl, ?_⟩) ?_ ?_
   rotate_left
   ·intro w'; go_simp; with_reducible rfl
   rotate_left
   ·simp only [Act.put, List.setIfInBounds_toArray, List.set_cons_zero, List.set_cons_succ, i64_w, i32_w]; rfl
   refine pure_ (i := 2) (N := some 71) (v := ?_) (a' := ?_) #[true, true, true, false, false, false, false, false, false] rfl rfl (by kernel_rfl) (fun _ _ _ h => h) (Or.inl ⟨by rfl, ?_⟩) ?_ ?_
   rotate_left
   ·intro w'; go_simp; with_reducible rfl
   rotate_left
   ·simp only [Act.put, List.setIfInBounds_toArray, List.set_cons_zero, List.set_cons_succ, i64_w, i32_w]; rfl
   refine pure_ (i := 3) (N := some 72) (v := ?_) (a' := ?_) #[true, true, true, true, false, false, false, false, false] rfl rfl (by kernel_rfl) (fun _ _ _ h => h) (Or.inl ⟨by rfl, ?_⟩) ?_ ?_
   rotate_left
   ·intro w'; go_simp; with_reducible rfl
   rotate_left
   ·simp only [Act.put, List.setIfInBounds_toArray, List.set_cons_zero, List.set_cons_succ, i64_w, i32_w]; rfl
   refine pure_ (i := 4) (N := some 73) (v := ?_) (a' := ?_) #[true, true, true, true, true, false, false, false, false] rfl rfl (by kernel_rfl) (fun _ _ _ h => h) (Or.inl ⟨by rfl, ?_⟩) ?_ ?_
   rotate_left
   ·intro w'; go_simp; with_reducible rfl
   rotate_left
   ·simp only [Act.put, List.setIfInBounds_toArray, List.set_cons_zero, List.set_cons_succ, i64_w, i32_w]; rfl
   refine pure_ (i := 5) (N := some 74) (v := ?_) (a' := ?_) #[true, true, true, true, true, true, false, false, false] rfl rfl (by kernel_rfl) (fun _ _ _ h => h) (Or.inl ⟨by rfl, ?_⟩) ?_ ?_
   rotate_left
   ·intro w'; go_simp; with_reducible rfl
   rotate_left
   ·simp only [Act.put, List.setIfInBounds_toArray, List.set_cons_zero, List.set_cons_succ, i64_w, i32_w]; rfl
   refine pure_ (i := 6) (N := some 75) (v := ?_) (a' := ?_) #[true, true, true, true, true, true, true, false, false] rfl rfl (by kernel_rfl) (fun _ _ _ h => h) (Or.inl ⟨by rfl, ?_⟩) ?_ ?_
   rotate_left
   ·intro w'; go_simp; with_reducible rfl
   rotate_left
   ·simp only [Act.put, List.setIfInBounds_toArray, List.set_cons_zero, List.set_cons_succ, i64_w, i32_w]; rfl
   refine pure_ (i := 7) (N := some 76) (v := ?_) (a' := ?_) #[true, true, true, true, true, true, true, true, false] rfl rfl (by kernel_rfl) (fun _ _ _ h => h) (Or.inl ⟨by rfl, ?_⟩) ?_ ?_
   rotate_left
   ·intro w'; go_simp; with_reducible rfl
   rotate_left
   ·simp only [Act.put, List.setIfInBounds_toArray, List.set_cons_zero, List.set_cons_succ, i64_w, i32_w]; rfl
   refine one_ (i := 8) (N := some 77) #[true, true, true, true, true, true, true, true, true] rfl rfl (by kernel_rfl) (by decide) (fun K hK => ?_)
   refine step_copy_run (by rfl) (.tmp 73) (.tmp 76) 70 70 3 rfl rfl (.slice (some ⟨g, k + 1, none⟩) (l.length - k) (cap - (k + 1))) (.slice (some ⟨g, k, none⟩) (l.length + 1 - k) (cap - k)) ?hs ?hx HRUN1.out ?_
   case hs => rfl
   case hx => rfl
   refine hK.out _ _ trivial (fun _ => ?_)
   clear hK K
   refine norm_ (a' := ?_) ?_ ?_
   rotate_left
   ·show Act.put _ (some 77) _ = _; simp only [Act.put, List.setIfInBounds_toArray, List.set_cons_zero, List.set_cons_succ, i64_w, i32_w]; rfl
   refine done_ (by kernel_rfl) ?_
   trace_state
   go_wp2_with ((with_reducible refine gate_builtin (b := .copy) (xs := #[.tmp 80, .tmp 81]) rfl ?_); refine wpList_copy_run rfl (.tmp 80) (.tmp 81) 70 70 3 rfl rfl (.slice (some ⟨g, k, none⟩) (l.length + 1 - k) (cap - k)) (.slice (some ⟨gs, 0, none⟩) 1 1) rfl rfl HRUN2.out ?_)
   go_ret
   exact ⟨_, rfl, HF.out, HG.out⟩
  ·have d2 : decide ((cap : Int) < (l.length : Int) + 1) = true := decide_eq_true (by omega)
   have hck0 : ¬ cap = k := by omega
   have hRt := Kd.R_take hR (m := k) (by omega)
   have hown := Kd.own_of_R hRt
   have hlk : (l.take k).length = k := by rw [List.length_take]; omega
   rw [hlk] at hown
   obtain ⟨C, w1, hz, hown1, hg1⟩ := run_zeros_grow (w := w) 70 base g cap k (l.length + 1 - k) _ hown (by omega) (by omega) (by omega)
   rw [show k + (l.length + 1 - k) = l.length + 1 by omega] at hz hown1
   rw [show ((l.length + 1 - k : Nat) : Int) = (l.length : Int) + 1 - (k : Int) by omega] at hz
   obtain ⟨ho1, ho2⟩ := hown1
   rcases ho2 with ⟨hv, _⟩ | ⟨G, C', LG, hv, hG0, hGh, hGn, hGm, hGs, hGt⟩
   ·cases hv
   simp only [Value.slice.injEq, Option.some.injEq, Addr.mk.injEq, and_true, true_and] at hv
   obtain ⟨rfl, rfl⟩ := hv
   have hGs1 : LG.size = C := by rw [hGs, Nat.mul_one]
   have hwg : g < w.heap.size := blk_lt hcur
   have hgsw : gs < w.heap.size := blk_lt HSB.out
   have hgs1 : w1.heap[gs]? = some (.cells #[.int .i64 x] 3 (0, 0)) := (hg1.block gs hgsw (by simp)).trans HSB.out
   have hr1 := run_copy_cells (P := Tryz.prog) w1 70 70 3 3 w.heap.size k (l.length + 1 - k) (C - k) ⟨gs, 0, none⟩ 1 1 [.int .i64 x] Tryz.underlying70 (by kernel_rfl) (by show 1 = min _ _; omega)
    (fun j u hj => by
     have hj0 : j = 0 := by have := (List.getElem?_eq_some_iff.1 hj).1; simp at this; omega
     subst hj0
     have hu : u = .int .i64 x := by simpa using hj.symm
     subst hu
     exact (blk_cell hgs1 0).trans rfl)
    (fun j hj => by rw [cell_of_row w1 _ _ LG 3 (0, 0) hGh, Array.getElem?_eq_getElem (by simp at hj; omega)]; rfl) (fun j _ => blk_frozen hGh _) (by simp [Value.oneCell'])
   obtain ⟨c2, c2a, c2b, c2c⟩ := setCells_row [.int .i64 x] k w1 LG hGh (by simp; omega)
   obtain ⟨W2, hW2⟩ : ∃ W, W = w1.setCells w.heap.size k [.int .i64 x] := ⟨_, rfl⟩
   rw [← hW2] at hr1 c2a
   have hb2 : ∀ q, q < w.heap.size → W2.heap[q]? = w.heap[q]? := fun q hq => by rw [hW2]; exact (setCells_far _ _ q (by omega)).trans (hg1.block q hq (by simp))
   have hs2 : W2.heap.size = w1.heap.size := by rw [hW2, (setCells_same _ _ _ _).2.2.2]
   have hB2 : Below base w W2 := by rw [hW2]; exact Go.below_setCells hbw _ _ _ ((Below.refl _ _).grown hg1 hbw (fun k hk => by cases hk))
   have hcur2 : W2.heap[g]? = some (.cells cur 3 (0, 0)) := (hb2 g hwg).trans hcur
   obtain ⟨D, hD⟩ : ∃ D, D = (l.drop k).map (Value.int .i64) := ⟨_, rfl⟩
   have hDl : D.length = l.length - k := by rw [hD, List.length_map, List.length_drop]
   have hcl := cells_of hcs hct hcur2
   have hr2 := run_copy_cells (P := Tryz.prog) W2.drew 70 70 3 3 w.heap.size (k + 1) (l.length - k) (C - (k + 1)) ⟨g, k, none⟩ (l.length - k) (cap - k) D Tryz.underlying70 (by kernel_rfl) (by rw [hDl]; show _ = min _ _; omega)
    (fun j u hj => by
     rw [hD] at hj
     have hjl : j < (l.drop k).length := by have := (List.getElem?_eq_some_iff.1 hj).1; rwa [List.length_map] at this
     rw [List.getElem?_map, List.getElem?_eq_getElem hjl] at hj
     have hu : u = .int .i64 (l.drop k)[j] := by simpa using hj.symm
     rw [hu, List.getElem_drop, add_at]
     exact hcl.1 (k + j) (by rw [List.length_drop] at hjl; omega))
    (fun j hj => by rw [hDl] at hj; rw [cell_of_row W2.drew _ _ c2 3 (0, 0) c2a, Array.getElem?_eq_getElem (by rw [c2b]; omega)]; rfl) (fun j _ => blk_frozen (w := W2.drew) c2a _) (fun u hu => by rw [hD] at hu; obtain ⟨y, _, rfl⟩ := List.mem_map.1 hu; rfl)
   rw [hDl] at hr2
   obtain ⟨c3, c3a, c3b, c3c⟩ := setCells_row D (k + 1) W2.drew c2 c2a (by rw [hDl, c2b]; omega)
   have htk : LG.toList.take k = (l.take k).map (Value.int .i64) := by
    have h0 : LG.toList.take k = (LG.toList.take ((l.length + 1) * 1)).take k := by rw [List.take_take, Nat.min_eq_left (by omega)]
    rw [h0, hGt]
    exact List.take_left' (by rw [encs_length, hlk])
   have hfin : c3.toList.take (l.take k ++ x :: l.drop k).length = (l.take k ++ x :: l.drop k).map (Value.int .i64) := by
    have e1 : (LG.toList.take k ++ [Value.int .i64 x] ++ LG.toList.drop (k + 1)).take (k + 1) = LG.toList.take k ++ [Value.int .i64 x] := List.take_left' (by rw [List.length_append, List.length_take, Array.length_toList]; simp; omega)
    rw [c3c, c2c, List.length_singleton, e1, htk, List.map_append, List.map_cons, ← hD]
    rw [show (l.take k).map (Value.int .i64) ++ Value.int .i64 x :: D = (l.take k).map (Value.int .i64) ++ [Value.int .i64 x] ++ D by simp]
    rw [show (l.take k ++ x :: l.drop k).length = ((l.take k).map (Value.int .i64) ++ [Value.int .i64 x] ++ D).length by simp [hD]]
    exact List.take_left
   have hll : (l.take k ++ x :: l.drop k).length = l.length + 1 := by simp; omega
   have hRf : Kd.R (Kd.int .i64) 3 (W2.drew.setCells w.heap.size (k + 1) D) base (fun q => ok q ∨ w.heap.size ≤ q) (.slice (some ⟨w.heap.size, 0, none⟩) (l.take k ++ x :: l.drop k).length C) (l.take k ++ x :: l.drop k) := R_ofcur c3a (by rw [c3b, c2b, hGs1]) hfin (by rw [hll]; exact hGn) hGm hbw (Or.inr (Nat.le_refl _))
   rw [hll] at hRf
   have HF := Aside0.mk hRf
   have HG : Aside0 (w.heap.size ≤ (W2.drew.setCells w.heap.size (k + 1) D).heap.size ∧ (∀ q, q < w.heap.size → ¬ ok q → (W2.drew.setCells w.heap.size (k + 1) D).heap[q]? = w.heap[q]?) ∧ Below base w (W2.drew.setCells w.heap.size (k + 1) D)) := ⟨by rw [(setCells_same _ _ _ _).2.2.2]; show _ ≤ W2.heap.size; rw [hs2]; exact hg1.size, fun q hq hn => (setCells_far _ _ q (by omega)).trans (hb2 q hq), Go.below_setCells hbw _ _ _ (below_step0 hB2)⟩
   have HRUNZ := Aside0.mk hz
   have HRUN1 := Aside0.mk hr1
   have HRUN2 := Aside0.mk hr2
   have hCk : ¬ C = k := by omega
   have hCk1 : ¬ C = k + 1 := by omega
   have hi1 : (0 : Int) ≤ (k : Int) + 1 := by omega
   have hi2 : (k : Int) + 1 ≤ (l.length : Int) + 1 := by omega
   have hi3 : (k : Int) ≤ (l.length : Int) + 1 := by omega
   have hi4 : ((k : Int) + 1).toNat = k + 1 := by omega
   have hi5 : (k : Int) ≤ (l.length : Int) := by omega
   have HW1 := Aside0.mk (wrap_succ hk hl)
   clear hR hsb hgc hRt hown hlk hz ho1 hg1 hG0 hGh hGt hGs hGs1 hgs1 hr1 c2a c2b c2c hW2 hb2 hs2 hB2 hcur2 hD hDl hcl hr2 c3a c3b c3c htk hfin hll hRf hcur hcs hct
   go_enter Tryz.func46, Tryz.ntmps46
   go_upto_region 10 with ((with_reducible refine gate_builtin (b := .append) (xs := #[.tmp 34, .tmp 39]) rfl ?_); at_builtin; refine wpList_append_run rfl (.tmp 34) (.tmp 39) 70 3 70 rfl rfl (.slice (some ⟨g, 0, none⟩) k cap) (.int .i64 ((l.length : Int) + 1 - (k : Int))) rfl rfl HRUNZ.out ?_)
   go_upto_region 11 with ((with_reducible refine gate_builtin (b := .copy) (xs := #[.tmp 43, .tmp 44]) rfl ?_); refine wpList_copy_run rfl (.tmp 43) (.tmp 44) 70 70 3 rfl rfl (.slice (some ⟨w.heap.size, k, none⟩) (l.length + 1 - k) (C - k)) (.slice (some ⟨gs, 0, none⟩) 1 1) rfl rfl HRUN1.out ?_)
   have hw1 := HW1.out
   refine start_ (n := 9) (S := fun W => True) (ds := []) #[false, false, false, false, false, false, false, false, false] (by kernel_rfl) rfl rfl trivial (fun hHeld => ?_)
   generalize W2.drew = W3 at *
   refine pure_ (i := 0) (N := some 46) (v := ?_) (a' := ?_) #[true, false, false, false, false, false, false, false, false] rfl rfl (by kernel_rfl) (fun _ _ _ h => h) (Or.inl ⟨by rfl, ?_⟩) ?_ ?_
   rotate_left
   ·intro w'; go_simp; with_reducible rfl
   rotate_left
   ·simp only [Act.put, List.setIfInBounds_toArray, List.set_cons_zero, List.set_cons_succ, i64_w, i32_w]; rfl
   refine pure_ (i := 1) (N := some 47) (v := ?_) (a' := ?_) #[true, true, false, false, false, false, false, false, false] rfl rfl (by kernel_rfl) (fun _ _ _ h => h) (Or.inl ⟨by rfl, ?_⟩) ?_ ?_
   rotate_left
   ·intro w'; go_simp; with_reducible rfl
   rotate_left
   ·simp only [Act.put, List.setIfInBounds_toArray, List.set_cons_zero, List.set_cons_succ, i64_w, i32_w]; rfl
   refine pure_ (i := 2) (N := some 48) (v := ?_) (a' := ?_) #[true, true, true, false, false, false, false, false, false] rfl rfl (by kernel_rfl) (fun _ _ _ h => h) (Or.inl ⟨by rfl, ?_⟩) ?_ ?_
   rotate_left
   ·intro w'; go_simp; with_reducible rfl
   rotate_left
   ·simp only [Act.put, List.setIfInBounds_toArray, List.set_cons_zero, List.set_cons_succ, i64_w, i32_w]; rfl
   refine pure_ (i := 3) (N := some 49) (v := ?_) (a' := ?_) #[true, true, true, true, false, false, false, false, false] rfl rfl (by kernel_rfl) (fun _ _ _ h => h) (Or.inl ⟨by rfl, ?_⟩) ?_ ?_
   rotate_left
   ·intro w'; go_simp; with_reducible rfl
   rotate_left
   ·simp only [Act.put, List.setIfInBounds_toArray, List.set_cons_zero, List.set_cons_succ, i64_w, i32_w]; rfl
   refine pure_ (i := 4) (N := some 50) (v := ?_) (a' := ?_) #[true, true, true, true, true, false, false, false, false] rfl rfl (by kernel_rfl) (fun _ _ _ h => h) (Or.inl ⟨by rfl, ?_⟩) ?_ ?_
   rotate_left
   ·intro w'; go_simp; with_reducible rfl
   rotate_left
   ·simp only [Act.put, List.setIfInBounds_toArray, List.set_cons_zero, List.set_cons_succ, i64_w, i32_w]; rfl
   refine pure_ (i := 5) (N := some 51) (v := ?_) (a' := ?_) #[true, true, true, true, true, true, false, false, false] rfl rfl (by kernel_rfl) (fun _ _ _ h => h) (Or.inl ⟨by rfl, ?_⟩) ?_ ?_
   rotate_left
   ·intro w'; go_simp; with_reducible rfl
   rotate_left
   ·simp only [Act.put, List.setIfInBounds_toArray, List.set_cons_zero, List.set_cons_succ, i64_w, i32_w]; rfl
   refine pure_ (i := 6) (N := some 52) (v := ?_) (a' := ?_) #[true, true, true, true, true, true, true, false, false] rfl rfl (by kernel_rfl) (fun _ _ _ h => h) (Or.inl ⟨by rfl, ?_⟩) ?_ ?_
   rotate_left
   ·intro w'; go_simp; with_reducible rfl
   rotate_left
   ·simp only [Act.put, List.setIfInBounds_toArray, List.set_cons_zero, List.set_cons_succ, i64_w, i32_w]; rfl
   refine pure_ (i := 7) (N := some 53) (v := ?_) (a' := ?_) #[true, true, true, true, true, true, true, true, false] rfl rfl (by kernel_rfl) (fun _ _ _ h => h) (Or.inl ⟨by rfl, ?_⟩) ?_ ?_
   rotate_left
   ·intro w'; go_simp; with_reducible rfl
   rotate_left
   ·simp only [Act.put, List.setIfInBounds_toArray, List.set_cons_zero, List.set_cons_succ, i64_w, i32_w]; rfl
   refine one_ (i := 8) (N := some 54) #[true, true, true, true, true, true, true, true, true] rfl rfl (by kernel_rfl) (by decide) (fun K hK => ?_)
   refine step_copy_run (by rfl) (.tmp 50) (.tmp 53) 70 70 3 rfl rfl (.slice (some ⟨w.heap.size, k + 1, none⟩) (l.length - k) (C - (k + 1))) (.slice (some ⟨g, k, none⟩) (l.length - k) (cap - k)) ?hs ?hx HRUN2.out ?_
   case hs => rfl
   case hx => rfl
   refine hK.out _ _ trivial (fun _ => ?_)
   clear hK K
   refine norm_ (a' := ?_) ?_ ?_
   rotate_left
   ·show Act.put _ (some 54) _ = _; simp only [Act.put, List.setIfInBounds_toArray, List.set_cons_zero, List.set_cons_succ, i64_w, i32_w]; rfl
   refine done_ (by kernel_rfl) ?_
   go_wp2
   go_ret
   exact ⟨_, rfl, HF.out, HG.out⟩
end Go.Proofs.YthgfdnffnbclpaaGreatDoor.PAll
namespace Go.Proofs.YthgfdnffnbclpaaGreatDoor.PAll
open Go.RowKit Go.Proofs.YthgfdnffnbclpaaGreatDoorW.PrintWords Go.Proofs.YthgfdnffnbclpaaGreatDoorW.PrintLast Go.Proofs.YthgfdnffnbclpaaGreatDoorW.PrintMore
theorem R_cells {W : World} {base : Nat} {ok : Nat → Prop} {xs : List Int} {g n c : Nat} (h : Kd.R (Kd.int .i64) 3 W base ok (.slice (some ⟨g, 0, none⟩) n c) xs) : ∀ o, o < c * (Kd.int .i64).sz → (W.cell? ⟨g, o, none⟩).isSome = true ∧ W.frozen? ⟨g, o, none⟩ = false := by
 intro o ho
 have ho2 : o < c := by have : c * (Kd.int .i64).sz = c := Nat.mul_one c; omega
 obtain ⟨cur, hh, hcs, _⟩ := R_cur h
 refine ⟨?_, blk_frozen hh o⟩
 rw [cell_of_row W g _ cur 3 (0, 0) hh, Array.getElem?_eq_getElem (by rw [hcs]; exact ho2)]
 rfl
theorem delInts_zero : ∀ w, (zeroValue 3).run Tryz.prog w = .ok (.int .i64 0) w := fun w => by kernel_rfl
set_option maxHeartbeats 4000000 in
set_option maxRecDepth 100000 in
theorem delInts_walk (g n c k : Nat) (base : Nat) (ok : Nat → Prop) (s : List Int) (w : World) (hS : Kd.R (Kd.int .i64) 3 w base ok (.slice (some ⟨g, 0, none⟩) n c) s) (hk : k < n) :
  Calls Tryz.prog 47 #[.slice (some ⟨g, 0, none⟩) n c, .int .i64 k, .int .i64 ((k : Int) + 1)] w fun e_ w' => e_ = .returned (.slice (some ⟨g, 0, none⟩) (n - 1 : Nat) c) ∧ Kd.R (Kd.int .i64) 3 w' base ok (.slice (some ⟨g, 0, none⟩) (n - 1 : Nat) c) (s.eraseIdx k) ∧ w.grownBy w' (some g) := by
 obtain ⟨hn, hnc, hC⟩ := Kd.R_reads' hS
 have hm := hC.2.1
 have hcm : c ≤ 9223372036854775807 := by
  obtain ⟨_, inner, ⟨_, ho2⟩, _⟩ := hS
  rcases ho2 with ⟨hv, _⟩ | ⟨g', cap', cur, hv, hb, hh, hnc', hcm, hcs, ht⟩
  ·cases hv
  injection hv with ha _ hc
  subst hc
  exact hcm
 have hb0 : base ≤ w.heap.size := by have h1 := Kd.R_base hS g (by simp [Value.ownBlock]); have h2 := Kd.R_lt hS g (by simp [Value.ownBlock]); omega
 have HS := Aside0.mk (Kd.R_drew hS)
 have HBB : Aside0 (base ≤ w.drew.heap.size) := ⟨hb0⟩
 have HN := Aside0.mk hn
 have d1 : ((k : Int) == (k : Int) + 1) = false := beq_eq_false_iff_ne.mpr (by omega)
 have hkc : k + 1 ≤ c := by omega
 have hn1 : n - (n - 1) = 1 := by omega
 clear hS hC hn hb0
 go_enter Tryz.func47, Tryz.ntmps47
 go_wp2
 have hkc2 : k ≤ c := by omega
 have hka : (0 : Int) ≤ (k : Int) + 1 := by omega
 have hkb : (k : Int) + 1 ≤ (n : Int) := by omega
 refine start_ (n := 8) (S := fun W => True) (ds := []) #[false, false, false, false, false, false, false, false] (by kernel_rfl) rfl rfl trivial (fun hHeld => ?_)
 refine pure_ (i := 0) (N := some 20) (v := ?_) (a' := ?_) #[true, false, false, false, false, false, false, false] rfl rfl (by kernel_rfl) (fun _ _ _ h => h) (Or.inl ⟨by rfl, ?_⟩) ?_ ?_
 rotate_left
 ·intro w'; go_simp; with_reducible rfl
 rotate_left
 ·simp only [Act.put, List.setIfInBounds_toArray, List.set_cons_zero, List.set_cons_succ, i64_w, i32_w]; rfl
 refine pure_ (i := 1) (N := some 21) (v := ?_) (a' := ?_) #[true, true, false, false, false, false, false, false] rfl rfl (by kernel_rfl) (fun _ _ _ h => h) (Or.inl ⟨by rfl, ?_⟩) ?_ ?_
 rotate_left
 ·intro w'; go_simp; with_reducible rfl
 rotate_left
 ·simp only [Act.put, List.setIfInBounds_toArray, List.set_cons_zero, List.set_cons_succ, i64_w, i32_w]; rfl
 refine pure_ (i := 2) (N := some 22) (v := ?_) (a' := ?_) #[true, true, true, false, false, false, false, false] rfl rfl (by kernel_rfl) (fun _ _ _ h => h) (Or.inl ⟨by rfl, ?_⟩) ?_ ?_
 rotate_left
 ·intro w'; go_simp; with_reducible rfl
 rotate_left
 ·simp only [Act.put, List.setIfInBounds_toArray, List.set_cons_zero, List.set_cons_succ, i64_w, i32_w]; rfl
 refine pure_ (i := 3) (N := some 23) (v := ?_) (a' := ?_) #[true, true, true, true, false, false, false, false] rfl rfl (by kernel_rfl) (fun _ _ _ h => h) (Or.inl ⟨by rfl, ?_⟩) ?_ ?_
 rotate_left
 ·intro w'; go_simp; with_reducible rfl
 rotate_left
 ·simp only [Act.put, List.setIfInBounds_toArray, List.set_cons_zero, List.set_cons_succ, i64_w, i32_w]; rfl
 refine pure_ (i := 4) (N := some 24) (v := ?_) (a' := ?_) #[true, true, true, true, true, false, false, false] rfl rfl (by kernel_rfl) (fun _ _ _ h => h) (Or.inl ⟨by rfl, ?_⟩) ?_ ?_
 rotate_left
 ·intro w'; go_simp; with_reducible rfl
 rotate_left
 ·simp only [Act.put, List.setIfInBounds_toArray, List.set_cons_zero, List.set_cons_succ, i64_w, i32_w]; rfl
 refine pure_ (i := 5) (N := some 25) (v := ?_) (a' := ?_) #[true, true, true, true, true, true, false, false] rfl rfl (by kernel_rfl) (fun _ _ _ h => h) (Or.inl ⟨by rfl, ?_⟩) ?_ ?_
 rotate_left
 ·intro w'; go_simp; with_reducible rfl
 rotate_left
 ·simp only [Act.put, List.setIfInBounds_toArray, List.set_cons_zero, List.set_cons_succ, i64_w, i32_w]; rfl
 refine one_ (i := 6) (N := some 26) #[true, true, true, true, true, true, true, false] rfl rfl (by kernel_rfl) (by decide) (fun K hK => ?_)
 refine Kd.R_delete_step (Kd.int .i64) (w0 := w) base (by rfl) (.tmp 22) (.tmp 25) 70 3 rfl Tryz.underlying70 (by kernel_rfl) (n := n) (c := c) (k := k) (xs := s) (ok := ok) rfl rfl ?hA rfl HS.out hk ?hB HBB.out ?_
 case hA =>
  split
  ·rfl
  ·show some (⟨g, (k + 1), none⟩ : Addr) = some ((⟨g, 0, none⟩ : Addr).add ((k + 1) * 1))
   rw [add_plain, Nat.mul_one]
 case hB => exact below_drew (Below.refl _ _)
 intro W1 hS1 hB1 hG1
 refine hK.out _ _ trivial (fun _ => ?_)
 clear hK K
 refine norm_ (a' := ?_) ?_ ?_
 rotate_left
 ·show Act.put _ (some 26) _ = _; simp only [Act.put, List.setIfInBounds_toArray, List.set_cons_zero, List.set_cons_succ, i64_w, i32_w]; rfl
 refine pure_ (i := 7) (N := some 0) (v := ?_) (a' := ?_) #[true, true, true, true, true, true, true, true] rfl rfl (by kernel_rfl) (fun _ _ _ h => h) (Or.inl ⟨by rfl, ?_⟩) ?_ ?_
 rotate_left
 ·intro w'; go_simp; with_reducible rfl
 rotate_left
 ·simp only [Act.put, List.setIfInBounds_toArray, List.set_cons_zero, List.set_cons_succ, i64_w, i32_w]; rfl
 refine done_ (by kernel_rfl) ?_
 have hcc := R_cells hS1
 have hcl : ∀ ty, (Builtin.clear_ #[70] ty #[.slice (some ⟨g, (n - 1), none⟩) 1 (c - (n - 1))]).run Tryz.prog W1 = .ok (.tuple #[]) (W1.setCells g ((n - 1)) [.int .i64 0]) := fun ty => clear_one W1 70 3 ty _ [.int .i64 0] Tryz.underlying70 delInts_zero (by kernel_rfl) (by simp [Value.oneCell']) g _ _ (fun j hj => (hcc _ (by have : j < 1 := hj; show (n - 1) + j < c * 1; omega)).1) (fun j hj => (hcc _ (by have : j < 1 := hj; show (n - 1) + j < c * 1; omega)).2)
 have hS2 := R_clear hS1 ((n - 1)) (by show (n - 1) * 1 ≤ (n - 1); omega) [.int .i64 0] (by show (n - 1) + 1 ≤ c * 1; omega)
 have HS2 := Aside0.mk hS2
 have HG1 := Aside0.mk hG1
 clear hS2 hS1 hcc hB1 hG1
 go_wp2
 all_goals
  go_ret
  first | exact ⟨rfl, HS2.out.1, (⟨HG1.out.os, HG1.out.tape, HG1.out.output, HG1.out.size, HG1.out.block⟩ : w.grownBy W1 (some g)).trans HS2.out.2⟩ | (have e9 : c = k + 1 := ‹c = k + 1›; have h9 := HS2.out.1; rw [e9] at h9; exact ⟨rfl, h9, (⟨HG1.out.os, HG1.out.tape, HG1.out.output, HG1.out.size, HG1.out.block⟩ : w.grownBy W1 (some g)).trans HS2.out.2⟩)
theorem le_of_lt_pw {l : List Int} (h : l.Pairwise (· < ·)) : l.Pairwise (· ≤ ·) := h.imp (fun h => by omega)
theorem at_take (c : Int) : ∀ (l : List Int), l.Pairwise (· ≤ ·) → l.takeWhile (· < c) = l.take (atI c l) ∧ l.dropWhile (· < c) = l.drop (atI c l) ∧ atI c l ≤ l.length
 | [], _ => ⟨rfl, rfl, Nat.le_refl _⟩
 | a :: l, h => by
  rw [List.pairwise_cons] at h
  obtain ⟨e1, e2, e3⟩ := at_take c l h.2
  unfold atI at *
  by_cases q : a < c
  ·have d : decide (a < c) = true := decide_eq_true q
   rw [List.takeWhile_cons_of_pos (p := fun x => decide (x < c)) d, List.dropWhile_cons_of_pos (p := fun x => decide (x < c)) d, List.countP_cons_of_pos (p := fun x => decide (x < c)) d, List.take_succ_cons, List.drop_succ_cons, e1, e2]
   exact ⟨rfl, rfl, by simp; omega⟩
  ·have d : decide (a < c) = false := decide_eq_false q
   have h0 : l.countP (· < c) = 0 := List.countP_eq_zero.2 (fun x hx => by have := h.1 x hx; simp; omega)
   rw [List.takeWhile_cons_of_neg (p := fun x => decide (x < c)) (by rw [d]; decide), List.dropWhile_cons_of_neg (p := fun x => decide (x < c)) (by rw [d]; decide), List.countP_cons_of_neg (p := fun x => decide (x < c)) (by rw [d]; decide), h0]
   exact ⟨rfl, rfl, Nat.zero_le _⟩
theorem insI_at (c : Int) (l : List Int) (h : l.Pairwise (· ≤ ·)) : insI c l = l.take (atI c l) ++ c :: l.drop (atI c l) := by
 unfold insI
 rw [(at_take c l h).1, (at_take c l h).2.1]
theorem rmv_at (c : Int) : ∀ (l : List Int), l.Pairwise (· < ·) → l.any (· == c) = true → atI c l < l.length ∧ l.filter (· != c) = l.eraseIdx (atI c l)
 | [], _, h => by simp at h
 | a :: l, h, hc => by
  rw [List.pairwise_cons] at h
  unfold atI
  by_cases q : a = c
  ·subst q
   have h0 : l.countP (· < a) = 0 := List.countP_eq_zero.2 (fun x hx => by have := h.1 x hx; simp; omega)
   have h1 : l.filter (· != a) = l := List.filter_eq_self.2 (fun x hx => by have := h.1 x hx; simp; omega)
   rw [List.countP_cons_of_neg (by simp), h0, List.filter_cons_of_neg (by simp), h1]
   exact ⟨by simp, rfl⟩
  ·have hc2 : l.any (· == c) = true := by
    rw [List.any_cons] at hc
    have : (a == c) = false := beq_eq_false_iff_ne.mpr q
    rwa [this, Bool.false_or] at hc
   obtain ⟨e1, e2⟩ := rmv_at c l h.2 hc2
   have hac : a < c := by
    rw [List.any_eq_true] at hc2
    obtain ⟨y, hy, hyc⟩ := hc2
    rw [beq_iff_eq] at hyc
    have := h.1 y hy; omega
   have d : decide (a < c) = true := decide_eq_true hac
   unfold atI at e1 e2
   rw [List.countP_cons_of_pos (p := fun x => decide (x < c)) d, List.filter_cons_of_pos (p := fun x => x != c) (by simpa using q), e2, List.eraseIdx_cons_succ]
   exact ⟨by simp; omega, rfl⟩
set_option maxHeartbeats 4000000 in
set_option maxRecDepth 100000 in
theorem add_walk (k : Nat) (A0 : Option Addr) (c0 : Nat) (s : List S49) (nm cn : ByteArray) (v : Bool) (w : World) (hS : Kd.C k49 w A0 s.length s) (hc0 : s.length ≤ c0) (hv : scheme_Valid.f k s = some v) (hsm : v = true → smallSch s ∧ ∀ t ∈ s, t.f4.Pairwise (· < ·)) (hL : LaidL w) :
  Calls Tryz.prog 14 #[.slice A0 s.length c0, .string nm, .string cn] w fun e w' => ∃ v0 : Value, e = .returned (.tuple #[v0, .int .i64 (addG v s nm cn).2]) ∧ Kd.S k49a 72 w' w.heap.size (fun _ => True) v0 (addG v s nm cn).1 ∧ Below w.heap.size w w' := by
 have HP := Aside0.mk (place_walk k A0 c0 s nm cn v w hS hc0 hv hL)
 have HS := Aside0.mk hS
 have HSM := Aside0.mk hsm
 clear hS hv hsm hL
 unfold addG
 have hrng := fun n c h => placeG_range (v := v) (s := s) (nm := nm) (cn := cn) (n := n) (c := c) h
 generalize placeG v s nm cn = p at *
 obtain ⟨pn, pc, pe⟩ := p
 simp only at HP
 by_cases q : pe = 0
 case neg =>
  have d1 : (pe == 0) = false := beq_eq_false_iff_ne.mpr q
  have d2 : (pe != 0) = true := by rw [bne, d1]; rfl
  simp only [if_neg q]
  clear q hrng
  go_enter Tryz.func14, Tryz.ntmps14
  go_wp2_with (go_at_call 44; refine HP.out.mono ?_; rintro e w1 ⟨rfl, hb1⟩)
  go_ret2
  exact ⟨_, rfl, Kd.S_nil _ _ _ _ _, hb1⟩
 subst q
 obtain ⟨rfl, hn0, hns, hc0', hcl⟩ := hrng pn pc rfl
 clear hrng
 obtain ⟨hss, hso⟩ := HSM.out rfl
 obtain ⟨n, rfl⟩ : ∃ m : Nat, pn = (m : Int) := ⟨pn.toNat, by omega⟩
 have hlt : n < s.length := by omega
 simp only [if_pos, Int.toNat_natCast]
 rw [rdT49 hlt]
 obtain ⟨aa, P1, p1, P2, p2, P3, p3, P4, p4, haa, z0, z1, z2, z3, z4, m1, C1, m2, C2, m3, C3, m4, C4⟩ := at_T49 HS.out (n : Int) hn0 hns
 subst haa
 rw [rdT49 hlt] at z0 z1 z2 z3 z4 m1 C1 m2 C2 m3 C3 m4 C4
 rw [Int.toNat_natCast] at z0 z1 z2 z3 z4
 have hgt : s[n]? = some s[n] := List.getElem?_eq_getElem hlt
 have HPW := Aside0.mk (hso s[n] (List.getElem_mem hlt))
 have hl4 : s[n].f4.length ≤ 2000000 := (hss.2 s[n] (List.getElem_mem hlt)).2.2.2
 have HSS := Aside0.mk hss
 have HGT := Aside0.mk hgt
 clear hgt hso hss hcl
 generalize s[n] = t at *
 have HK : Aside0 (∀ W, Below w.heap.size w W → W.cell? (aa.add (n * 5)) = some (.string t.f0) ∧ W.cell? ⟨(aa.add (n * 5)).block, (aa.add (n * 5)).off + 1, none⟩ = some (.slice P1 t.f1.length p1) ∧ W.cell? ⟨(aa.add (n * 5)).block, (aa.add (n * 5)).off + 2, none⟩ = some (.slice P2 t.f2.length p2) ∧ W.cell? ⟨(aa.add (n * 5)).block, (aa.add (n * 5)).off + 3, none⟩ = some (.slice P3 t.f3.length p3) ∧ W.cell? ⟨(aa.add (n * 5)).block, (aa.add (n * 5)).off + 4, none⟩ = some (.slice P4 t.f4.length p4)) := ⟨fun W hW => ⟨(hW.cell (World.block_lt_of_cell? w _ z0)).trans z0, (hW.cell (World.block_lt_of_cell? w _ z1)).trans z1, (hW.cell (World.block_lt_of_cell? w _ z2)).trans z2, (hW.cell (World.block_lt_of_cell? w _ z3)).trans z3, (hW.cell (World.block_lt_of_cell? w _ z4)).trans z4⟩⟩
 have HI : Aside0 (∀ W, Below w.heap.size w W → Calls Tryz.prog 45 #[.slice P4 t.f4.length p4, .int .i64 pc] W fun e w' => e = .returned (.tuple #[.int .i64 (atI pc t.f4 : Nat), .bool (t.f4.any (· == pc))]) ∧ Below W.heap.size W w') := ⟨fun W hW => search_walk P4 p4 t.f4 pc W (Kd.C_below C4 hW) m4 (by omega) (le_of_lt_pw HPW.out)⟩
 clear z0 z1 z2 z3 z4 m1 C1 m2 C2 m3 C3 m4 C4
 cases hany : t.f4.any (· == pc) with
 | true =>
  simp only [if_pos]
  rw [hany] at HI
  clear hany
  go_enter Tryz.func14, Tryz.ntmps14
  go_wp2_with (first | (go_at_call 44; refine HP.out.mono ?_; rintro e w1 ⟨rfl, hb1⟩; obtain ⟨y0, y1, y2, y3, y4⟩ := HK.out _ hb1) | (go_at_call 45; refine (HI.out _ hb1).mono ?_; rintro e w2 ⟨rfl, hb2⟩))
  go_ret2
  exact ⟨_, rfl, Kd.S_nil _ _ _ _ _, below_step hb1 hb2⟩
 | false =>
  rw [hany] at HI
  clear hany
  rw [if_neg (by decide)]
  have HCP : Aside0 (∀ W, Below w.heap.size w W → Calls Tryz.prog 34 #[.slice (some aa) s.length c0] W fun e w' => ∃ v0_ : Value, e = .returned (v0_) ∧ Kd.S k49a 72 w' W.heap.size (fun _ => True) v0_ s ∧ Below W.heap.size W w') := ⟨fun W hW => copiedA_walk (some aa) c0 s W (Kd.C_below HS.out hW) hc0 HSS.out⟩
  have HDP : Aside0 (0 < s.length) := ⟨by omega⟩
  have HAT := Aside0.mk (insI_at pc t.f4 (le_of_lt_pw HPW.out))
  have HLE := Aside0.mk (at_take pc t.f4 (le_of_lt_pw HPW.out)).2.2
  go_enter Tryz.func14, Tryz.ntmps14
  go_upto_region 8 with (first | (go_at_call 44; refine HP.out.mono ?_; rintro e w1 ⟨rfl, hb1⟩; obtain ⟨y0, y1, y2, y3, y4⟩ := HK.out _ hb1) | (go_at_call 45; refine (HI.out _ hb1).mono ?_; rintro e w2 ⟨rfl, hb2⟩) | (go_at_call 34; refine (HCP.out _ (below_step hb1 hb2)).mono ?_; rintro e w3 ⟨v3, rfl, hv3, hb3⟩; obtain ⟨g, cap, ev, hg1, hg2, gcells, hgc⟩ := Kd.S_form hv3 HDP.out; subst ev))
  have HB3 := Aside0.mk (below_step (below_step hb1 hb2) hb3)
  obtain ⟨okx, A4, c4, hx4, hR4, hok4, hgs, hgb, hput⟩ := S_ix (Kd.S_lower hv3 (below_step hb1 hb2).size) n t HGT.out
  have hba : Below w3.heap.size w3 (w3.alloc (.cells #[.int .i64 pc] 3)) := (Below.refl _ _).alloc (Nat.le_refl _) _
  have hsa : (w3.alloc (.cells #[.int .i64 pc] 3)).heap.size = w3.heap.size + 1 := Array.size_push _
  have HINS := Aside0.mk (insOne_walk A4 c4 t.f4 (atI pc t.f4) pc w3.heap.size w.heap.size (fun q => okx q ∧ q < w3.heap.size) (w3.alloc (.cells #[.int .i64 pc] 3)) (Kd.R_below (Kd.R_mono (Kd.R_bound hR4) (fun q hq => ⟨hq.1, hq.2.2.1⟩)) hba) HLE.out (Go.Deep.blk_alloc_new w3 _) (fun h => by omega) (by omega) (by have := HB3.out.size; omega))
  have HPUT := Aside0.mk hput
  have HBA := Aside0.mk hba
  clear hb1 hb2 hb3 y0 y1 y2 y3 y4 hv3 hg1 hg2 hgc hR4 hput HP HI HCP HK hba
  go_upto_region 9 with (go_at_call 46; refine HINS.out.mono ?_; rintro e w5 ⟨v5, rfl, hv5, hsz5, hfar5, hb5⟩; rw [← HAT.out] at hv5; obtain ⟨A5, c5, e5⟩ := Kd.R_slice hv5; subst e5; obtain ⟨hc5, hf5, hS5⟩ := HPUT.out w5 (insI pc t.f4) (.slice A5 (insI pc t.f4).length c5) (by omega) (fun q hq hn => (hfar5 q (by omega) (fun h => hn h.1)).trans (HBA.out.block q hq)) (Kd.R_mono hv5 (fun q hq => hq.elim (fun h => Or.inl h.1) (fun h => Or.inr ⟨trivial, by omega⟩))))
  have hB7 : Aside0 (Below w.heap.size w (w5.setCell ⟨g, n * 5 + 4, none⟩ (.slice A5 (insI pc t.f4).length c5))) := ⟨Below.setCell ((below_step HB3.out HBA.out).trans hb5) (by show w.heap.size ≤ g; exact hgb) _⟩
  have HS7 := Aside0.mk hS5
  clear hS5 hc5 hf5 hv5 hb5 hx4 hfar5 hsz5
  go_wp2
  go_ret2
  exact ⟨_, rfl, HS7.out, hB7.out⟩
set_option maxHeartbeats 4000000 in
set_option maxRecDepth 100000 in
theorem rmv_walk (k : Nat) (A0 : Option Addr) (c0 : Nat) (s : List S49) (nm cn : ByteArray) (v : Bool) (w : World) (hS : Kd.C k49 w A0 s.length s) (hc0 : s.length ≤ c0) (hv : scheme_Valid.f k s = some v) (hsm : v = true → smallSch s ∧ ∀ t ∈ s, t.f4.Pairwise (· < ·)) (hL : LaidL w) :
  Calls Tryz.prog 16 #[.slice A0 s.length c0, .string nm, .string cn] w fun e w' => ∃ v0 : Value, e = .returned (.tuple #[v0, .int .i64 (rmvG v s nm cn).2]) ∧ Kd.S k49a 72 w' w.heap.size (fun _ => True) v0 (rmvG v s nm cn).1 ∧ Below w.heap.size w w' := by
 have HP := Aside0.mk (place_walk k A0 c0 s nm cn v w hS hc0 hv hL)
 have HS := Aside0.mk hS
 have HSM := Aside0.mk hsm
 clear hS hv hsm hL
 unfold rmvG
 have hrng := fun n c h => placeG_range (v := v) (s := s) (nm := nm) (cn := cn) (n := n) (c := c) h
 generalize placeG v s nm cn = p at *
 obtain ⟨pn, pc, pe⟩ := p
 simp only at HP
 by_cases q : pe = 0
 case neg =>
  have d1 : (pe == 0) = false := beq_eq_false_iff_ne.mpr q
  have d2 : (pe != 0) = true := by rw [bne, d1]; rfl
  simp only [if_neg q]
  clear q hrng
  go_enter Tryz.func16, Tryz.ntmps16
  go_wp2_with (go_at_call 44; refine HP.out.mono ?_; rintro e w1 ⟨rfl, hb1⟩)
  go_ret2
  exact ⟨_, rfl, Kd.S_nil _ _ _ _ _, hb1⟩
 subst q
 obtain ⟨rfl, hn0, hns, hc0', hcl⟩ := hrng pn pc rfl
 clear hrng
 obtain ⟨hss, hso⟩ := HSM.out rfl
 obtain ⟨n, rfl⟩ : ∃ m : Nat, pn = (m : Int) := ⟨pn.toNat, by omega⟩
 have hlt : n < s.length := by omega
 simp only [if_pos, Int.toNat_natCast]
 rw [rdT49 hlt]
 obtain ⟨aa, P1, p1, P2, p2, P3, p3, P4, p4, haa, z0, z1, z2, z3, z4, m1, C1, m2, C2, m3, C3, m4, C4⟩ := at_T49 HS.out (n : Int) hn0 hns
 subst haa
 rw [rdT49 hlt] at z0 z1 z2 z3 z4 m1 C1 m2 C2 m3 C3 m4 C4
 rw [Int.toNat_natCast] at z0 z1 z2 z3 z4
 have hgt : s[n]? = some s[n] := List.getElem?_eq_getElem hlt
 have HPW := Aside0.mk (hso s[n] (List.getElem_mem hlt))
 have hl4 : s[n].f4.length ≤ 2000000 := (hss.2 s[n] (List.getElem_mem hlt)).2.2.2
 have HSS := Aside0.mk hss
 have HGT := Aside0.mk hgt
 clear hgt hso hss hcl
 generalize s[n] = t at *
 have HK : Aside0 (∀ W, Below w.heap.size w W → W.cell? (aa.add (n * 5)) = some (.string t.f0) ∧ W.cell? ⟨(aa.add (n * 5)).block, (aa.add (n * 5)).off + 1, none⟩ = some (.slice P1 t.f1.length p1) ∧ W.cell? ⟨(aa.add (n * 5)).block, (aa.add (n * 5)).off + 2, none⟩ = some (.slice P2 t.f2.length p2) ∧ W.cell? ⟨(aa.add (n * 5)).block, (aa.add (n * 5)).off + 3, none⟩ = some (.slice P3 t.f3.length p3) ∧ W.cell? ⟨(aa.add (n * 5)).block, (aa.add (n * 5)).off + 4, none⟩ = some (.slice P4 t.f4.length p4)) := ⟨fun W hW => ⟨(hW.cell (World.block_lt_of_cell? w _ z0)).trans z0, (hW.cell (World.block_lt_of_cell? w _ z1)).trans z1, (hW.cell (World.block_lt_of_cell? w _ z2)).trans z2, (hW.cell (World.block_lt_of_cell? w _ z3)).trans z3, (hW.cell (World.block_lt_of_cell? w _ z4)).trans z4⟩⟩
 have HI : Aside0 (∀ W, Below w.heap.size w W → Calls Tryz.prog 45 #[.slice P4 t.f4.length p4, .int .i64 pc] W fun e w' => e = .returned (.tuple #[.int .i64 (atI pc t.f4 : Nat), .bool (t.f4.any (· == pc))]) ∧ Below W.heap.size W w') := ⟨fun W hW => search_walk P4 p4 t.f4 pc W (Kd.C_below C4 hW) m4 (by omega) (le_of_lt_pw HPW.out)⟩
 clear z0 z1 z2 z3 z4 m1 C1 m2 C2 m3 C3 m4 C4
 cases hany : t.f4.any (· == pc) with
 | false =>
  rw [if_neg (by decide)]
  rw [hany] at HI
  clear hany
  go_enter Tryz.func16, Tryz.ntmps16
  go_wp2_with (first | (go_at_call 44; refine HP.out.mono ?_; rintro e w1 ⟨rfl, hb1⟩; obtain ⟨y0, y1, y2, y3, y4⟩ := HK.out _ hb1) | (go_at_call 45; refine (HI.out _ hb1).mono ?_; rintro e w2 ⟨rfl, hb2⟩))
  go_ret2
  exact ⟨_, rfl, Kd.S_nil _ _ _ _ _, below_step hb1 hb2⟩
 | true =>
  simp only [if_pos]
  rw [hany] at HI
  obtain ⟨hal, hfe⟩ := rmv_at pc t.f4 HPW.out hany
  have HFE := Aside0.mk hfe
  clear hany hfe
  have HCP : Aside0 (∀ W, Below w.heap.size w W → Calls Tryz.prog 34 #[.slice (some aa) s.length c0] W fun e w' => ∃ v0_ : Value, e = .returned (v0_) ∧ Kd.S k49a 72 w' W.heap.size (fun _ => True) v0_ s ∧ Below W.heap.size W w') := ⟨fun W hW => copiedA_walk (some aa) c0 s W (Kd.C_below HS.out hW) hc0 HSS.out⟩
  have HDP : Aside0 (0 < s.length) := ⟨by omega⟩
  go_enter Tryz.func16, Tryz.ntmps16
  go_upto_region 8 with (first | (go_at_call 44; refine HP.out.mono ?_; rintro e w1 ⟨rfl, hb1⟩; obtain ⟨y0, y1, y2, y3, y4⟩ := HK.out _ hb1) | (go_at_call 45; refine (HI.out _ hb1).mono ?_; rintro e w2 ⟨rfl, hb2⟩) | (go_at_call 34; refine (HCP.out _ (below_step hb1 hb2)).mono ?_; rintro e w3 ⟨v3, rfl, hv3, hb3⟩; obtain ⟨g, cap, ev, hg1, hg2, gcells, hgc⟩ := Kd.S_form hv3 HDP.out; subst ev))
  have HB3 := Aside0.mk (below_step (below_step hb1 hb2) hb3)
  obtain ⟨okx, A4, c4, hx4, hR4, hok4, hgs, hgb, hput⟩ := S_ix (Kd.S_lower hv3 (below_step hb1 hb2).size) n t HGT.out
  obtain ⟨g4, cap4, ev4, hgb4, _⟩ := Kd.R_form hR4 (by omega)
  simp only [Value.slice.injEq, true_and] at ev4
  obtain ⟨eA, eC⟩ := ev4
  subst eA
  subst eC
  have hok := hR4.1 g4 (by simp [Value.ownBlock])
  have HDEL := Aside0.mk (delInts_walk g4 t.f4.length c4 (atI pc t.f4) w.heap.size okx t.f4 w3 hR4 hal)
  have HPUT := Aside0.mk hput
  clear hb1 hb2 hb3 y0 y1 y2 y3 y4 hv3 hg1 hg2 hgc hR4 hput HP HI HCP HK
  go_upto_region 9 with (go_at_call 47; refine HDEL.out.mono ?_; rintro e w5 ⟨rfl, hv5, hg5⟩; rw [← HFE.out] at hv5; obtain ⟨hc5, hf5, hS5⟩ := HPUT.out w5 (t.f4.filter (· != pc)) (.slice (some ⟨g4, 0, none⟩) (t.f4.length - 1) c4) hg5.size (fun q hq hn => hg5.block q hq (fun h => by injection h with h; subst h; exact hn hok)) (Kd.R_mono hv5 (fun q hq => Or.inl hq)))
  have hB7 : Aside0 (Below w.heap.size w (w5.setCell ⟨g, n * 5 + 4, none⟩ (.slice (some ⟨g4, 0, none⟩) (t.f4.length - 1) c4))) := ⟨Below.setCell (HB3.out.grown hg5 HB3.out.size (fun q hq => by injection hq with hq; subst hq; exact hgb4)) (by show w.heap.size ≤ g; exact hgb) _⟩
  have HS7 := Aside0.mk hS5
  clear hS5 hc5 hf5 hv5 hg5 hx4
  go_wp2
  go_ret2
  exact ⟨_, rfl, HS7.out, hB7.out⟩
structure S109 where
 f0 : ByteArray
 f1 : Int
 f2 : Bool
 f3 : Int
 f4 : Int
 f5 : Bool
def z109 : S109 := ⟨(⟨#[]⟩ : ByteArray), (0 : Int), false, (0 : Int), (0 : Int), false⟩
def k109 : Kd S109 := Kd.iso (Kd.pair Kd.string (Kd.pair (Kd.int .u8) (Kd.pair Kd.bool (Kd.pair (Kd.int .i64) (Kd.pair (Kd.int .i64) Kd.bool))))) (fun x : S109 => (x.f0, x.f1, x.f2, x.f3, x.f4, x.f5))
theorem k109_open {w : World} {x : S109} {cs : List Value} (h : k109.K w x cs) : cs = [.string x.f0, .int .u8 x.f1, .bool x.f2, .int .i64 x.f3, .int .i64 x.f4, .bool x.f5] := by
 obtain ⟨_, _, rfl, rfl, ⟨_, _, rfl, rfl, ⟨_, _, rfl, rfl, ⟨_, _, rfl, rfl, ⟨_, _, rfl, rfl, rfl⟩⟩⟩⟩⟩ := h
 exact rfl
theorem k109_mk (w : World) (x : S109)  : k109.K w x [.string x.f0, .int .u8 x.f1, .bool x.f2, .int .i64 x.f3, .int .i64 x.f4, .bool x.f5] := ⟨[.string x.f0], [.int .u8 x.f1, .bool x.f2, .int .i64 x.f3, .int .i64 x.f4, .bool x.f5], rfl, rfl, ⟨[.int .u8 x.f1], [.bool x.f2, .int .i64 x.f3, .int .i64 x.f4, .bool x.f5], rfl, rfl, ⟨[.bool x.f2], [.int .i64 x.f3, .int .i64 x.f4, .bool x.f5], rfl, rfl, ⟨[.int .i64 x.f3], [.int .i64 x.f4, .bool x.f5], rfl, rfl, ⟨[.int .i64 x.f4], [.bool x.f5], rfl, rfl, rfl⟩⟩⟩⟩⟩
def rd_T109 (xs : List S109) (i : Int) : S109 := xs.getD i.toNat z109
theorem at_T109 {w : World} {A : Option Addr} {n : Nat} {xs : List S109} (h : Kd.C k109 w A n xs) (i : Int) (h0 : 0 ≤ i) (h1 : i < n) : ∃ ad , A = some ad ∧ w.cell? (ad.add (i.toNat * 6)) = some (.string (rd_T109 xs i).f0) ∧ w.cell? ⟨(ad.add (i.toNat * 6)).block, (ad.add (i.toNat * 6)).off + 1, none⟩ = some (.int .u8 (rd_T109 xs i).f1) ∧ w.cell? ⟨(ad.add (i.toNat * 6)).block, (ad.add (i.toNat * 6)).off + 2, none⟩ = some (.bool (rd_T109 xs i).f2) ∧ w.cell? ⟨(ad.add (i.toNat * 6)).block, (ad.add (i.toNat * 6)).off + 3, none⟩ = some (.int .i64 (rd_T109 xs i).f3) ∧ w.cell? ⟨(ad.add (i.toNat * 6)).block, (ad.add (i.toNat * 6)).off + 4, none⟩ = some (.int .i64 (rd_T109 xs i).f4) ∧ w.cell? ⟨(ad.add (i.toNat * 6)).block, (ad.add (i.toNat * 6)).off + 5, none⟩ = some (.bool (rd_T109 xs i).f5) := by
 obtain ⟨ad, c, e, _, hK, hc0⟩ := Kd.C_get h z109 i h0 h1
 have hc : ∀ j u, c[j]? = some u → w.cell? (ad.add (i.toNat * 6 + j)) = some u := hc0
 obtain rfl := k109_open hK
 exact ⟨ad, e, hc 0 _ rfl, by rw [← add_field _ _ 1 (by omega)]; exact hc 1 _ rfl, by rw [← add_field _ _ 2 (by omega)]; exact hc 2 _ rfl, by rw [← add_field _ _ 3 (by omega)]; exact hc 3 _ rfl, by rw [← add_field _ _ 4 (by omega)]; exact hc 4 _ rfl, by rw [← add_field _ _ 5 (by omega)]; exact hc 5 _ rfl⟩
def rd_Ls (xs : List (List ByteArray)) (i : Int) : (List ByteArray) := xs.getD i.toNat ([] : List ByteArray)
theorem at_Ls {w : World} {A : Option Addr} {n : Nat} {xs : List (List ByteArray)} (h : Kd.C (Kd.slice 9 Kd.string) w A n xs) (i : Int) (h0 : 0 ≤ i) (h1 : i < n) : ∃ ad A0 c0, A = some ad ∧ w.cell? (ad.add i.toNat) = some (.slice A0 (rd_Ls xs i).length c0) ∧ (rd_Ls xs i).length ≤ c0 ∧ Kd.string.C w A0 (rd_Ls xs i).length (rd_Ls xs i) := by
 obtain ⟨ad, c, e, _, hK, hc0⟩ := Kd.C_get h ([] : List ByteArray) i h0 h1
 have hc : ∀ j u, c[j]? = some u → w.cell? (ad.add (i.toNat * 1 + j)) = some u := hc0
 obtain ⟨A0, c0, rfl, l0, g0⟩ := hK
 exact ⟨ad, A0, c0, e, by have hq := hc 0 _ rfl; rwa [Nat.mul_one, Nat.add_zero] at hq, l0, g0⟩
structure S105 where
 f0 : (List ByteArray)
 f1 : ByteArray
 f2 : (List ByteArray)
def z105 : S105 := ⟨([] : List ByteArray), (⟨#[]⟩ : ByteArray), ([] : List ByteArray)⟩
def k105 : Kd S105 := Kd.iso (Kd.pair (Kd.slice 9 Kd.string) (Kd.pair Kd.string (Kd.slice 9 Kd.string))) (fun x : S105 => (x.f0, x.f1, x.f2))
theorem k105_open {w : World} {x : S105} {cs : List Value} (h : k105.K w x cs) : ∃ A0 c0 A2 c2, cs = [.slice A0 x.f0.length c0, .string x.f1, .slice A2 x.f2.length c2] ∧ x.f0.length ≤ c0 ∧ Kd.string.C w A0 x.f0.length x.f0 ∧ x.f2.length ≤ c2 ∧ Kd.string.C w A2 x.f2.length x.f2 := by
 obtain ⟨_, _, rfl, ⟨A0, c0, rfl, l0, g0⟩, ⟨_, _, rfl, rfl, ⟨A2, c2, rfl, l2, g2⟩⟩⟩ := h
 exact ⟨A0, c0, A2, c2, rfl, l0, g0, l2, g2⟩
theorem k105_mk (w : World) (x : S105) {A0 : Option Addr} {c0 : Nat} (l0 : x.f0.length ≤ c0) (g0 : Kd.string.C w A0 x.f0.length x.f0) {A2 : Option Addr} {c2 : Nat} (l2 : x.f2.length ≤ c2) (g2 : Kd.string.C w A2 x.f2.length x.f2) : k105.K w x [.slice A0 x.f0.length c0, .string x.f1, .slice A2 x.f2.length c2] := ⟨[.slice A0 x.f0.length c0], [.string x.f1, .slice A2 x.f2.length c2], rfl, ⟨A0, c0, rfl, l0, g0⟩, ⟨[.string x.f1], [.slice A2 x.f2.length c2], rfl, rfl, ⟨A2, c2, rfl, l2, g2⟩⟩⟩
def rd_T105 (xs : List S105) (i : Int) : S105 := xs.getD i.toNat z105
theorem at_T105 {w : World} {A : Option Addr} {n : Nat} {xs : List S105} (h : Kd.C k105 w A n xs) (i : Int) (h0 : 0 ≤ i) (h1 : i < n) : ∃ ad A0 c0 A2 c2, A = some ad ∧ w.cell? (ad.add (i.toNat * 3)) = some (.slice A0 (rd_T105 xs i).f0.length c0) ∧ w.cell? ⟨(ad.add (i.toNat * 3)).block, (ad.add (i.toNat * 3)).off + 1, none⟩ = some (.string (rd_T105 xs i).f1) ∧ w.cell? ⟨(ad.add (i.toNat * 3)).block, (ad.add (i.toNat * 3)).off + 2, none⟩ = some (.slice A2 (rd_T105 xs i).f2.length c2) ∧ (rd_T105 xs i).f0.length ≤ c0 ∧ Kd.string.C w A0 (rd_T105 xs i).f0.length (rd_T105 xs i).f0 ∧ (rd_T105 xs i).f2.length ≤ c2 ∧ Kd.string.C w A2 (rd_T105 xs i).f2.length (rd_T105 xs i).f2 := by
 obtain ⟨ad, c, e, _, hK, hc0⟩ := Kd.C_get h z105 i h0 h1
 have hc : ∀ j u, c[j]? = some u → w.cell? (ad.add (i.toNat * 3 + j)) = some u := hc0
 obtain ⟨A0, c0, A2, c2, rfl, l0, g0, l2, g2⟩ := k105_open hK
 exact ⟨ad, A0, c0, A2, c2, e, hc 0 _ rfl, by rw [← add_field _ _ 1 (by omega)]; exact hc 1 _ rfl, by rw [← add_field _ _ 2 (by omega)]; exact hc 2 _ rfl, l0, g0, l2, g2⟩
end Go.Proofs.YthgfdnffnbclpaaGreatDoor.PAll
