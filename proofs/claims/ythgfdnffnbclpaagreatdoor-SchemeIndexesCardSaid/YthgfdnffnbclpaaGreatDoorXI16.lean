import Derived.Test.YthgfdnffnbclpaaGreatDoorXI15
import Derived.Lib.SliceRun
import Derived.Test.YthgfdnffnbclpaaGreatDoorXI03
import Derived.Test.YthgfdnffnbclpaaGreatDoorXI07
import Derived.Test.YthgfdnffnbclpaaGreatDoorXI10
import Derived.Test.YthgfdnffnbclpaaGreatDoorXI06
set_option linter.unusedVariables false
set_option linter.unusedSimpArgs false
namespace Go.Proofs.YthgfdnffnbclpaaGreatDoor.PAll
open Go.RowKit Go.Proofs.YthgfdnffnbclpaaGreatDoorW.PrintWords Go.Proofs.YthgfdnffnbclpaaGreatDoorW.PrintLast Go.Proofs.YthgfdnffnbclpaaGreatDoorW.PrintMore

theorem R_clear {α : Type} {d : Kd α} {e : Nat} {W : World} {base : Nat} {ok : Nat → Prop} {xs : List α} {g n c : Nat} (h : d.R e W base ok (.slice (some ⟨g, 0, none⟩) n c) xs) (o : Nat) (ho : n * d.sz ≤ o) (seg : List Value) (hfit : o + seg.length ≤ c * d.sz) :
    d.R e (W.setCells g o seg) base ok (.slice (some ⟨g, 0, none⟩) n c) xs ∧ W.grownBy (W.setCells g o seg) (some g) := by
  obtain ⟨hn, hnc, _⟩ := Kd.R_reads' h
  obtain ⟨hok, inner, ⟨ho1, ho2⟩, hr⟩ := h
  rcases ho2 with ⟨hv, _⟩ | ⟨g', cap', cur, hv, hb, hh, hnc', hcm, hcs, ht⟩
  · cases hv
  injection hv with ha _ hc
  injection ha with ha
  injection ha with hg
  subst hg; subst hc
  obtain ⟨cur', h3, h4, h5⟩ := setCells_row seg o W cur hh (by rw [hcs]; exact hfit)
  obtain ⟨s1, s2, s3, s4⟩ := setCells_same g seg o W
  have hfar : ∀ k, k ≠ g → (W.setCells g o seg).heap[k]? = W.heap[k]? := fun k hk => setCells_far seg _ k hk
  have hgo : some g = (Value.slice (some ⟨g, 0, none⟩) n c).ownBlock := by simp [Value.ownBlock]
  have hol : o ≤ cur.toList.length := by rw [Array.length_toList, hcs]; omega
  refine ⟨⟨hok, inner, ⟨ho1, .inr ⟨g, c, cur', by rw [hn], hb, h3, by rw [← hn]; exact hnc, hcm, by rw [h4, hcs], ?_⟩⟩, hr.imp_ fun p cs hp => Kd.M_step hp (fun k hk _ => hfar k (fun he => hk.2 (by rw [he]; exact hgo)))⟩, ⟨s1, s2, s3, by rw [s4]; exact Nat.le_refl _, fun k _ hk => hfar k (fun he => hk (by rw [he]))⟩⟩
  rw [← ht, h5, List.append_assoc, List.take_append_of_le_length (by rw [List.length_take]; rw [← hn]; omega), List.take_take, Nat.min_eq_left (by rw [← hn]; exact ho)]
theorem clear_one {P : Program} (w : World) (t e ty : TypeId) (z : Value) (seg : List Value) (ht : P.underlying t = some (.slice e)) (hv : ∀ w, (zeroValue e).run P w = .ok z w) (hz : (Builtin.zeroCells z.cells 1).toList = seg) (h1 : ∀ q ∈ seg, q.oneCell' = true) (b o c : Nat)
    (hc : ∀ j, j < seg.length → (w.cell? ⟨b, o + j, none⟩).isSome = true) (hf : ∀ j, j < seg.length → w.frozen? ⟨b, o + j, none⟩ = false) :
    (Builtin.clear_ #[t] ty #[.slice (some ⟨b, o, none⟩) 1 c]).run P w = .ok (.tuple #[]) (w.setCells b o seg) := by
  have hst := run_storeCells_cells (P := P) b o seg 0 w (by simpa using hc) (by simpa using hf) h1
  simp only [Nat.add_zero] at hst
  simp [Builtin.clear_, run_underlying ht, hv, hz, hst]
end Go.Proofs.YthgfdnffnbclpaaGreatDoor.PAll
namespace Go.Proofs.YthgfdnffnbclpaaGreatDoor.PAll
open Go.RowKit Go.Proofs.YthgfdnffnbclpaaGreatDoorW.PrintWords Go.Proofs.YthgfdnffnbclpaaGreatDoorW.PrintLast Go.Proofs.YthgfdnffnbclpaaGreatDoorW.PrintMore
attribute [local go_sem] max2_int min2_int max_two min_two max_three min_three max_four min_four   -- for this text's walks alone

attribute [local go_sem high] eqA64
/-! ### jointerref07_CopyRows: function 33 -/
def jointerref07_CopyRows.l0 : Nat → List (List (S64)) → List (List (S64)) → Int → Option ((List (List (S64))))
  | 0, _, _, _ => none
  | k + 1, x0, x3, x4 => if x4 < (x0.length : Int) then ((some (([] : List (S64)) : List (S64))).bind fun y415 => (if 0 ≤ x4 then (if y415.length + (rd_L12 x0 x4).length < 4398046511104 then (if x3.length < 5864062014805 then (jointerref07_CopyRows.l0 k x0 (x3 ++ [(y415 ++ (rd_L12 x0 x4))]) (wrap64 (x4 + 1))) else (none)) else (none)) else (none))) else (some x3)
def jointerref07_CopyRows.f (k : Nat) (l0 : List (List (S64))) : Option ((List (List (S64)))) := jointerref07_CopyRows.l0 k l0 ([] : List (List (S64))) 0
theorem jointerref07_CopyRows.mono_l : ∀ k, (∀ y0 y1 y2, LeO (jointerref07_CopyRows.l0 k y0 y1 y2) (jointerref07_CopyRows.l0 (k + 1) y0 y1 y2))
  | 0 => fun _ _ _ r h => by simp [jointerref07_CopyRows.l0] at h
  | k + 1 => by
    have ih0 := jointerref07_CopyRows.mono_l k
    · intro y0 y1 y2
      unfold jointerref07_CopyRows.l0
      repeat' first
      | (with_reducible exact ih0 _ _ _)
      | (with_reducible exact LeO.refl _)
      | (with_reducible exact LeO.none _)
      | (with_reducible refine LeO.ite ?_ ?_)
      | (with_reducible refine LeO.bind ?_ (fun _ => ?_))
      | exact ih0 _ _ _
      | exact LeO.none _
      | refine LeO.ite ?_ ?_
      | refine LeO.bind ?_ (fun _ => ?_)
theorem jointerref07_CopyRows.mono : ∀ a0 k, LeO (jointerref07_CopyRows.f k a0) (jointerref07_CopyRows.f (k + 1) a0) := by
  intro a0 k
  have ih0 := jointerref07_CopyRows.mono_l k
  unfold jointerref07_CopyRows.f
  repeat' first
      | (with_reducible exact ih0 _ _ _)
      | (with_reducible exact LeO.refl _)
      | (with_reducible exact LeO.none _)
      | (with_reducible refine LeO.ite ?_ ?_)
      | (with_reducible refine LeO.bind ?_ (fun _ => ?_))
      | exact ih0 _ _ _
      | exact LeO.none _
      | refine LeO.ite ?_ ?_
      | refine LeO.bind ?_ (fun _ => ?_)
set_option maxHeartbeats 8000000 in
set_option maxRecDepth 100000 in
theorem jointerref07_CopyRows.calls (k : Nat) (A0 : Option Addr) (c0 : Nat) (l0 : List (List (S64))) (r : List (List (S64))) (w : World) (hr0 : Kd.C (Kd.slice 87 k64) w A0 l0.length l0) (hc0 : l0.length ≤ c0) (h : jointerref07_CopyRows.f k l0 = some r) :
    Calls Tryz.prog 21 #[.slice A0 l0.length c0] w fun e w' => ∃ v0_ : Value, e = .returned (v0_) ∧ Kd.S (Kd.slice 87 k64) 89 w' w.heap.size (fun _ => True) v0_ r ∧ Below w.heap.size w w' := by
  have HR0 := Aside0.mk hr0
  have HC0 := Aside0.mk hc0
  clear hr0 hc0
  have HB := Aside0.mk (Below.refl w.heap.size w)
  have H : (jointerref07_CopyRows.l0 k l0 ([] : List (List (S64))) 0) = some r := h
  clear h
  have H' := Aside0.mk H
  clear H
  go_enter Tryz.func21, Tryz.ntmps21
  go_wp2
  go_loopg [3, 4] k (fun kq v3 v4 w' => ∃ (x3_1 : List (List (S64))) (x4_1 : Int), v4 = .int .i64 x4_1 ∧ Aside0 (jointerref07_CopyRows.l0 kq l0 x3_1 x4_1 = some r) ∧ Aside0 (kq ≤ k) ∧ Aside0 (Kd.S (Kd.slice 87 k64) 89 w' w.heap.size (fun _ => True) v3 x3_1) ∧ Aside0 (Below w.heap.size w w'))
  case atStart => exact ⟨(([] : List (List (S64)))), (0), (by first | rfl | (simp; done) | (simp [*]; done)), H', ⟨Nat.le_refl _⟩, ⟨by first | exact Kd.S_nil _ _ _ _ _ | exact Kd.N_nil _ _ _ _ _ | exact Kd.V_nil _ _ _ _ _ | exact Kd.Q_nil _ _ _ _ _ | exact Kd.R_nil _ _ _ _ _⟩, ⟨by repeat (first | (with_reducible first | exact HB.out | apply below_alloc | apply pw_below_drewN | apply below_drew1) | exact HB.out)⟩⟩
  case round =>
    clear H'
    obtain ⟨x3_1, x4_1, rfl, HA, HK1, HO_3, HB⟩ := hrel
    cases gk with
    | zero => exact absurd HA.out (by simp [jointerref07_CopyRows.l0])
    | succ k1 =>
      have H := HA.out
      clear HA
      simp only [jointerref07_CopyRows.l0] at H
      by_cases c2 : x4_1 < (l0.length : Int)
      · rw [if_pos c2] at H
        have c2b0 : decide (x4_1 < (l0.length : Int)) = true := decide_eq_true c2
        clear c2
        obtain ⟨y415, hy415⟩ : ∃ y_ : List (S64), y_ = (([] : List (S64))) := ⟨_, rfl⟩
        replace H : (if 0 ≤ x4_1 then (if y415.length + (rd_L12 l0 x4_1).length < 4398046511104 then (if x3_1.length < 5864062014805 then (jointerref07_CopyRows.l0 k1 l0 (x3_1 ++ [(y415 ++ (rd_L12 l0 x4_1))]) (wrap64 (x4_1 + 1))) else (none)) else (none)) else (none)) = some r := by first | (rw [hy415]; with_reducible exact H) | (have H2_ := (Option.bind_some _ _).symm.trans H; rw [hy415]; with_reducible exact H2_) | (have H2_ := (Option.bind_some _ _).symm.trans H; with_reducible exact H2_) | with_reducible exact H | (rw [hy415]; exact H) | exact H
        have Ny415 := Aside0.mk hy415
        clear hy415
        by_cases c3 : 0 ≤ x4_1
        · rw [if_pos c3] at H
          have c3b0 : decide (0 ≤ x4_1) = true := decide_eq_true c3
          clear c3
          by_cases c4 : y415.length + (rd_L12 l0 x4_1).length < 4398046511104
          · rw [if_pos c4] at H
            have LMc4 := Aside0.mk c4
            clear c4
            obtain ⟨y419, hy419⟩ : ∃ y_ : List (S64), y_ = (y415 ++ (rd_L12 l0 x4_1)) := ⟨_, rfl⟩
            replace H : (if x3_1.length < 5864062014805 then (jointerref07_CopyRows.l0 k1 l0 (x3_1 ++ [y419]) (wrap64 (x4_1 + 1))) else (none)) = some r := by first | (rw [hy419]; with_reducible exact H) | (have H2_ := (Option.bind_some _ _).symm.trans H; rw [hy419]; with_reducible exact H2_) | (have H2_ := (Option.bind_some _ _).symm.trans H; with_reducible exact H2_) | with_reducible exact H | (rw [hy419]; exact H) | exact H
            have Ny419 := Aside0.mk hy419
            clear hy419
            by_cases c5 : x3_1.length < 5864062014805
            · rw [if_pos c5] at H
              have LMc5 := Aside0.mk c5
              clear c5
              obtain ⟨y422, hy422⟩ : ∃ y_ : List (List (S64)), y_ = (x3_1 ++ [y419]) := ⟨_, rfl⟩
              replace H : (jointerref07_CopyRows.l0 k1 l0 y422 (wrap64 (x4_1 + 1))) = some r := by first | (rw [hy422]; with_reducible exact H) | (have H2_ := (Option.bind_some _ _).symm.trans H; rw [hy422]; with_reducible exact H2_) | (have H2_ := (Option.bind_some _ _).symm.trans H; with_reducible exact H2_) | with_reducible exact H | (rw [hy422]; exact H) | exact H
              have Ny422 := Aside0.mk hy422
              clear hy422
              have H' := Aside0.mk H
              clear H
              go_wp2_with (first | ((with_reducible refine gate_dst (N := 12) rfl ?_); refine Kd.R_lit k64 _ 87 ?hg (N := 12) ?hd (xs := ([] : List (S64))) (inner := []) (ok := fun _ => True) (okp := fun _ => True) ?hr ?hp (fun _ hk => hk) trivial (Below.refl _ _) (Nat.le_refl _) (by simp) ?_; (case hd => rfl); (case hg => rfl); (case hr => first | (go_simp; done) | (go_simp; rfl)); (case hp => exact (Reps.none _ _)); intro v416 w6 ho7 hb hg_ hnew_; clear hg_ hnew_; (first | rw [← Ny415.out] at ho7 | (simp only [Int.reduceToNat] at ho7; rw [← Ny415.out] at ho7)); have n0_ := Aside0.mk (Kd.S_elder' (by (with_reducible repeat (first | apply Kd.S_alloc | apply Kd.S_drewN | apply Kd.S_drew)); exact HO_3.out) (Kd.R_base ho7) hb); have n1_ := Aside0.mk (Kd.R_lower ho7 (below_size (by repeat (first | (with_reducible first | exact HB.out | apply below_alloc | apply pw_below_drewN | apply below_drew1) | exact HB.out)))); have n2_ := Aside0.mk (below_step (by repeat (first | (with_reducible first | exact HB.out | apply below_alloc | apply pw_below_drewN | apply below_drew1) | exact HB.out)) hb); clear HO_3; clear HB; have HO_3 := n0_; have HO417 := n1_; have HB := n2_; clear n0_ n1_ n2_; clear hb ho7; have p418 : 0 ≤ (x4_1 : Int) := of_decide_eq_true (by first | (with_reducible assumption) | assumption); have q418 : x4_1 < (l0.length : Int) := of_decide_eq_true (by first | (with_reducible assumption) | assumption); obtain ⟨ad418, A418_0, c418_0, e418, hx418_0, hl418_0, hi418_0⟩ := at_L12 HR0.out x4_1 p418 q418; cases e418; replace hx418_0 := (HB.out.cell (World.block_lt_of_cell? w _ hx418_0)).trans hx418_0; have HR418_0 := Aside0.mk hi418_0; have HC418_0 := Aside0.mk hl418_0; clear hi418_0 hl418_0; replace p418 := eq_true p418; replace q418 := eq_true q418) | ((with_reducible refine gate_builtin (b := .append) (xs := #[.tmp 12, .tmp 16]) rfl ?_); at_builtin; refine Kd.R_append_rows k64 (w0 := w) w.heap.size rfl (.tmp 12) (.tmp 16) 89 87 (.agg #[(.int .u8 0), (.int .i64 0), (.string ⟨#[]⟩)]) 32 rfl Tryz.underlying89 info87 rfl (by decide) (by omega) v416 y415 (rd_L12 l0 x4_1) _ _ _ (fun _ => True) (fun _ => False) rfl rfl ?aO ?aR (fun _ _ h => h) (fun _ h => h.elim) ?aF ?aB ?aS ?aL ?_; (case aR => repeat (first | exact (Kd.C_below HR418_0.out HB.out) | (with_reducible refine Kd.C_alloc ?_ _) | (with_reducible refine Kd.C_drewN ?_ _) | (with_reducible refine Kd.C_drew ?_))); (case aB => exact (by repeat (first | (with_reducible first | exact HB.out | apply below_alloc | apply pw_below_drewN | apply below_drew1) | exact HB.out))); (case aF => exact (fun _ _ => trivial)); (case aO => exact (by (with_reducible repeat (first | apply Kd.R_alloc | apply Kd.R_drewN | apply Kd.R_drew)); exact HO417.out)); (case aS => exact (below_size (by repeat (first | (with_reducible first | exact HB.out | apply below_alloc | apply pw_below_drewN | apply below_drew1) | exact HB.out)))); (case aL => have := LMc4.out; omega); intro v420 w8 ho hb hg hat; rw [← Ny419.out] at ho; have n0_ := Aside0.mk (Kd.S_after (ok := (fun _ => True)) (by (with_reducible repeat (first | apply Kd.S_alloc | apply Kd.S_drewN | apply Kd.S_drew)); exact HO_3.out) hg hat); have n1_ := Aside0.mk (hb); have n2_ := Aside0.mk (ho); clear HO_3; clear HB; clear HO417; have HO_3 := n0_; have HB := n1_; have HO421 := n2_; clear n0_ n1_ n2_; clear ho hb hg hat; obtain ⟨Ao10, co10, eo10⟩ := Kd.R_slice HO421.out; subst eo10) | ((with_reducible refine gate_builtin (b := .append) (xs := #[.tmp 11, .tmp 18]) rfl ?_); at_builtin; refine Kd.S_append (Kd.slice 87 k64) (w0 := w) w.heap.size rfl (.tmp 11) (.tmp 18) 41 89 (.slice none 0 0) 24 rfl Tryz.underlying41 info89 rfl (by decide) (by omega) u3 x3_1 y419 [.slice Ao10 y419.length co10] (fun _ => True) (fun k_ => some k_ = (.slice Ao10 y419.length co10 : Value).ownBlock) rfl rfl ?aP (fun k_ hk_ => ((Kd.R_mono (ok' := fun k_ => ((fun _ => True)) k_ ∧ some k_ ≠ (u3 : Value).ownBlock) (Kd.R_apart' (HO421.out) (Kd.S_typed HO_3.out) (by decide)) (fun k_ hk => ⟨trivial, hk.2⟩))).1 k_ hk_.symm) ?aF ?aO ?aB ?aS ?aL ?_; (case aP => exact Kd.M_row (Kd.R_mono (Kd.R_tight rfl (Kd.R_mono (ok' := fun k_ => ((fun _ => True)) k_ ∧ some k_ ≠ (u3 : Value).ownBlock) (Kd.R_apart' (HO421.out) (Kd.S_typed HO_3.out) (by decide)) (fun k_ hk => ⟨trivial, hk.2⟩))) (fun _ h_ => h_))); (case aB => exact (by repeat (first | (with_reducible first | exact HB.out | apply below_alloc | apply pw_below_drewN | apply below_drew1) | exact HB.out))); (case aF => exact (fun _ _ => trivial)); (case aO => exact (by (with_reducible repeat (first | apply Kd.S_alloc | apply Kd.S_drewN | apply Kd.S_drew)); exact Kd.S_mono HO_3.out (fun k_ hk => ⟨trivial, fun e_ => hk.2 e_⟩))); (case aS => exact (below_size (by repeat (first | (with_reducible first | exact HB.out | apply below_alloc | apply pw_below_drewN | apply below_drew1) | exact HB.out)))); (case aL => have := LMc5.out; omega); intro v423 w9 ho hb hg hat; rw [← Ny422.out] at ho; have n0_ := Aside0.mk (hb); have n1_ := Aside0.mk (ho); clear HB; clear HO_3; clear HO421; have HB := n0_; have HO424 := n1_; clear n0_ n1_; clear ho hb hg hat))
              go_roundg k1
              case measure => have := HK1.out; omega
              case rel => exact ⟨(y422), (wrap64 (x4_1 + 1)), (by first | rfl | (simp; done) | (simp [*]; done)), H', ⟨by have := HK1.out; omega⟩, ⟨by (with_reducible repeat (first | apply Kd.S_alloc | apply Kd.S_drewN | apply Kd.S_drew)); exact HO424.out⟩, ⟨by repeat (first | (with_reducible first | exact HB.out | apply below_alloc | apply pw_below_drewN | apply below_drew1) | exact HB.out)⟩⟩
            · rw [if_neg c5] at H
              exact absurd H (by simp)
          · rw [if_neg c4] at H
            exact absurd H (by simp)
        · rw [if_neg c3] at H
          exact absurd H (by simp)
      · rw [if_neg c2] at H
        have c2b0 : decide (x4_1 < (l0.length : Int)) = false := decide_eq_false c2
        clear c2
        obtain rfl := Option.some.inj H
        go_wp2
        go_ret
        exact ⟨_, by first | rfl | (simp [errW_none, errW_some] <;> rfl) | (simp [*, errW_none, errW_some] <;> rfl), by (with_reducible repeat (first | apply Kd.S_alloc | apply Kd.S_drewN | apply Kd.S_drew)); exact HO_3.out, by repeat (first | (with_reducible first | exact HB.out | apply below_alloc | apply pw_below_drewN | apply below_drew1) | exact HB.out)⟩

end Go.Proofs.YthgfdnffnbclpaaGreatDoor.PAll
namespace Go.Proofs.YthgfdnffnbclpaaGreatDoor.PAll
open Go.RowKit Go.Proofs.YthgfdnffnbclpaaGreatDoorW.PrintWords Go.Proofs.YthgfdnffnbclpaaGreatDoorW.PrintLast Go.Proofs.YthgfdnffnbclpaaGreatDoorW.PrintMore

end Go.Proofs.YthgfdnffnbclpaaGreatDoor.PAll
namespace Go.Proofs.YthgfdnffnbclpaaGreatDoor.PAll
open Go.RowKit Go.Proofs.YthgfdnffnbclpaaGreatDoorW.PrintWords Go.Proofs.YthgfdnffnbclpaaGreatDoorW.PrintLast Go.Proofs.YthgfdnffnbclpaaGreatDoorW.PrintMore

/-- The rows that are not gone. -/
def leftP : Rows → List Bool → Rows
  | row :: r, g :: q => if g = true then leftP r q else row :: leftP r q
  | _, _ => []
def refsFromP (s : List S49) (d : Data) : Nat → List S49 → Option Bool
  | _, [] => some true
  | m, t :: r => (refsP s d m t.f3).bind fun b => if b = true then refsFromP s d (m + 1) r else some false
def deleteP (k : Nat) (s : List S49) (d : Data) (nm : ByteArray) (gone : List Bool) : Option (Data × Int) :=
  (dataP k s d).bind fun v =>
    if v = true then
      if findP nm 0 s < 0 then some ([], 71)
      else if gone.length = (rd_L13 d (findP nm 0 s)).length then
        (refsFromP s (d.set (findP nm 0 s).toNat (leftP (rd_L13 d (findP nm 0 s)) gone)) 0 s).bind fun b =>
          if b = true then some (d.set (findP nm 0 s).toNat (leftP (rd_L13 d (findP nm 0 s)) gone), 0) else some ([], 77)
      else some ([], 78)
    else some ([], 1)

section
variable {P : Program} {ops : Array Oper} {Q : Exit → Act → World → Prop} {rest : List Oper} {o : Oper} {a : Act} {w : World}
theorem wpList_put_run (hg : o.guard = none) (t : TypeId) (p x : Operand) (hop : o.op = .store t p x) (hN : o.dst = none) {pv u : Value} {w' : World} (hp : a.eval p = pv) (hx : a.eval x = u)
    (hrun : (Instr.storeAt t pv u).run P w = .ok () w') (hK : wpList P ops Q rest a w') : wpList P ops Q (o :: rest) a w := by
  refine wpList_plain hg fun K' hK' => ?_
  unfold Oper.wp
  simp only [execOp, hop, hp, hx, hrun, Result.andThen, Sem.run_bind]
  show K' (a.put o.dst undef) w'
  rw [hN]
  exact hK' _ _ hK
end

theorem leftP_snoc : ∀ (a : Rows) (b : List Bool) (x : List S64) (y : Bool), a.length = b.length → leftP (a ++ [x]) (b ++ [y]) = leftP a b ++ (if y = true then [] else [x])
  | [], [], x, y, _ => by cases y <;> rfl
  | [], _ :: _, _, _, h => by simp at h
  | _ :: _, [], _, _, h => by simp at h
  | a :: a2, b :: b2, x, y, h => by
    have := leftP_snoc a2 b2 x y (by simpa using h)
    show leftP (a :: (a2 ++ [x])) (b :: (b2 ++ [y])) = _
    unfold leftP
    rw [this]
    split
    · rfl
    · rfl
theorem leftP_len : ∀ (a : Rows) (b : List Bool), (leftP a b).length ≤ a.length
  | [], b => by simp [leftP]
  | a :: a2, [] => by simp [leftP]
  | a :: a2, b :: b2 => by
    have := leftP_len a2 b2
    unfold leftP
    split
    · simp; omega
    · simp; omega
theorem leftP_mem : ∀ (a : Rows) (b : List Bool), ∀ x ∈ leftP a b, x ∈ a
  | [], b, x, h => by simp [leftP] at h
  | a :: a2, [], x, h => by simp [leftP] at h
  | a :: a2, b :: b2, x, h => by
    unfold leftP at h
    split at h
    · exact List.mem_cons_of_mem _ (leftP_mem a2 b2 x h)
    · rcases List.mem_cons.1 h with rfl | h
      · exact List.mem_cons_self
      · exact List.mem_cons_of_mem _ (leftP_mem a2 b2 x h)

set_option maxHeartbeats 4000000 in
set_option maxRecDepth 100000 in
theorem deleteS_walk (k : Nat) (A0 : Option Addr) (c0 : Nat) (s : List S49) (A1 : Option Addr) (c1 : Nat) (d : Data) (nm : ByteArray) (A3 : Option Addr) (c3 : Nat) (gone : List Bool) (r1 : Data) (r2 : Int) (w : World)
    (hS : Kd.C k49 w A0 s.length s) (hc0 : s.length ≤ c0) (hD : Kd.C (Kd.slice 89 (Kd.slice 87 k64)) w A1 d.length d) (hc1 : d.length ≤ c1) (hG : Kd.C Kd.bool w A3 gone.length gone) (hc3 : gone.length ≤ c3)
    (hwd : wfData d) (hsd : dataP k s d = some true → smallData d) (hL : LaidL w) (h : deleteP k s d nm gone = some (r1, r2)) :
    Calls Tryz.prog 24 #[.slice A0 s.length c0, .slice A1 d.length c1, .string nm, .slice A3 gone.length c3] w fun e w' => ∃ v0 : Value, e = .returned (.tuple #[v0, .int .i64 r2]) ∧ Kd.S (Kd.slice 89 (Kd.slice 87 k64)) 41 w' w.heap.size (fun _ => True) v0 r1 ∧ Below w.heap.size w w' := by
  have HS := Aside0.mk hS
  have HD := Aside0.mk hD
  have HG := Aside0.mk hG
  have HWD := Aside0.mk hwd
  have HSD := Aside0.mk hsd
  have HB0 := Aside0.mk (Below.refl w.heap.size w)
  have HNIL : Aside0 (∀ W, Kd.C (Kd.slice 89 (Kd.slice 87 k64)) W none 0 ([] : Data)) := ⟨fun W => C_nil _ W⟩
  unfold deleteP at h
  obtain ⟨v, hv, h⟩ := Option.bind_eq_some_iff.mp h
  have HV := Aside0.mk (validData_walk k A0 c0 s A1 c1 d v w hS hc0 hD hc1 hwd hL hv)
  have HF : Aside0 (∀ W, Below w.heap.size w W → Calls Tryz.prog 33 #[.slice A0 s.length c0, .string nm] W fun e w' => e = .returned (.int .i64 (findP nm 0 s)) ∧ Below W.heap.size W w') := ⟨fun W hW => scheme_find.calls A0 c0 s nm _ W (Kd.C_below hS hW) hc0 rfl⟩
  have HH := Aside0.mk h
  have HVD := Aside0.mk hv
  clear hS hD hG hwd hsd hL h hv
  go_enter Tryz.func24, Tryz.ntmps24
  cases v with
  | false =>
    have h := HH.out
    rw [if_neg (by decide)] at h
    cases h
    go_wp2_with (go_at_call 29; refine HV.out.mono ?_; rintro e w1 ⟨rfl, hb1⟩)
    go_ret2
    exact ⟨_, rfl, Kd.S_nil _ _ _ _ _, hb1⟩
  | true =>
    have h := HH.out
    rw [if_pos rfl] at h
    have HLEN := Aside0.mk (dataP_len HVD.out)
    have HSD2 := Aside0.mk (HSD.out HVD.out)
    have hrange := findP_range nm s 0
    generalize findP nm 0 s = n at *
    by_cases q : n < 0
    · rw [if_pos q] at h
      cases h
      have d1 : decide (n < 0) = true := decide_eq_true q
      clear q hrange HH
      go_wp2_with (first | (go_at_call 29; refine HV.out.mono ?_; rintro e w1 ⟨rfl, hb1⟩) | (go_at_call 33; refine (HF.out _ hb1).mono ?_; rintro e w2 ⟨rfl, hb2⟩))
      go_ret2
      exact ⟨_, rfl, Kd.S_nil _ _ _ _ _, below_step hb1 hb2⟩
    rw [if_neg q] at h
    have d1 : decide (n < 0) = false := decide_eq_false q
    have hn0 : 0 ≤ n := by omega
    have hns : n < (s.length : Int) := by omega
    have hnd : n < (d.length : Int) := by have := HLEN.out; omega
    clear q hrange HH
    have HP := Aside0.mk h
    clear h
    obtain ⟨ad, Ar, cr, hAd, hx, hcr, hCr⟩ := at_L13 HD.out n hn0 hnd
    cases hAd
    generalize hold : rd_L13 d n = old at *
    have HX : Aside0 (∀ W, Below w.heap.size w W → W.cell? (ad.add n.toNat) = some (.slice Ar old.length cr)) := ⟨fun W hB => (hB.cell (World.block_lt_of_cell? w _ hx)).trans hx⟩
    have HOL : Aside0 (old.length ≤ 2000000) := ⟨by rw [← hold]; unfold rd_L13; have hl : n.toNat < d.length := by omega
                                                    rw [List.getD_eq_getElem?_getD, List.getElem?_eq_getElem hl]; exact (HSD2.out.2 _ (List.getElem_mem hl)).1⟩
    have HOLD := Aside0.mk hold
    clear hx hcr hCr hold
    by_cases q : gone.length = old.length
    case neg =>
      have hp := HP.out
      rw [if_neg q] at hp
      cases hp
      have qi : ¬ ((gone.length : Int) = (old.length : Int)) := by omega
      have d2 : ((gone.length : Int) == (old.length : Int)) = false := beq_eq_false_iff_ne.mpr qi
      have d3 : ((gone.length : Int) != (old.length : Int)) = true := bne_iff_ne.mpr qi
      clear q qi HP
      go_wp2_with (first | (go_at_call 29; refine HV.out.mono ?_; rintro e w1 ⟨rfl, hb1⟩) | (go_at_call 33; refine (HF.out _ hb1).mono ?_; rintro e w2 ⟨rfl, hb2⟩; have x0 := HX.out _ (below_step hb1 hb2)))
      go_ret2
      exact ⟨_, rfl, Kd.S_nil _ _ _ _ _, below_step hb1 hb2⟩
    have hp := HP.out
    rw [if_pos q] at hp
    have HP1 := Aside0.mk hp
    have qi : ((gone.length : Int) = (old.length : Int)) := by omega
    have d2 : ((gone.length : Int) == (old.length : Int)) = true := beq_iff_eq.mpr qi
    have d3 : ((gone.length : Int) != (old.length : Int)) = false := by rw [bne, d2]; rfl
    have HQ := Aside0.mk q
    have HCD : Aside0 (∀ W, Below w.heap.size w W → Calls Tryz.prog 37 #[.slice (some ad) d.length c1] W fun e w' => ∃ v0_ : Value, e = .returned (v0_) ∧ Kd.S (Kd.slice 89 (Kd.slice 87 k64)) 41 w' W.heap.size (fun _ => True) v0_ d ∧ Below W.heap.size W w') := ⟨fun W hW => copiedData_walk (some ad) c1 d W (Kd.C_below HD.out hW) hc1 HSD2.out⟩
    have HDP : Aside0 (0 < d.length) := ⟨by omega⟩
    clear q qi hp HP
    have HMK : Aside0 (∀ W, ∃ W2, (Instr.makeSlice 41 (.int .i64 0) (.int .i64 gone.length)).run Tryz.prog W = .ok (.slice (some ⟨W.heap.size, 0, none⟩) 0 gone.length) W2 ∧ W2.ownsRow W.heap.size 89 1 (.slice (some ⟨W.heap.size, 0, none⟩) 0 gone.length) 0 [] ∧ W.grownBy W2 none) := ⟨fun W => by
      obtain ⟨i0, hi0, hz0, hz1, hz2⟩ := info_parts (P := Tryz.prog) (e := 89) (z := .slice none 0 0) (size := 1) (bytes := 24) (by kernel_rfl)
      have h1 := HQ.out
      have h2 := HOL.out
      exact run_make_own W W.heap.size 41 89 i0 _ 1 Tryz.underlying41 hi0 hz0 hz1 .i64 .i64 gone.length (by rw [hz2]; omega) (by unfold maxLen; omega) (Nat.le_refl _)⟩
    go_wp2_with (first | (go_at_call 29; refine HV.out.mono ?_; rintro e w1 ⟨rfl, hb1⟩) | (go_at_call 33; refine (HF.out _ hb1).mono ?_; rintro e w2 ⟨rfl, hb2⟩; have x0 := HX.out _ (below_step hb1 hb2)) | (go_at_call 37; refine (HCD.out _ (below_step hb1 hb2)).mono ?_; rintro e W1 ⟨v, rfl, ho, hb3⟩; obtain ⟨g, cap, ev, hg1, hg2, gcells, hgc⟩ := Kd.S_form ho HDP.out; subst ev; obtain ⟨oki, cc, hcl, hM, hcc, hoki, hH⟩ := Kd.S_lend ho ([] : Rows) n hn0 hnd; obtain ⟨vn, rfl, hRn⟩ := hM; rw [show List.getD d n.toNat [] = old from HOLD.out] at hRn; obtain ⟨An, cn, rfl⟩ := Kd.R_slice hRn; have hcell0 := hcc 0 _ rfl; have hcell : W1.cell? ⟨g, n.toNat, none⟩ = some (.slice An old.length cn) := (by simpa [Kd.slice] using hcell0); obtain ⟨W2, hmk, hown, hgr⟩ := HMK.out W1; have HBM := Aside0.mk ((Below.refl W1.heap.size W1).grown hgr (Nat.le_refl _) (fun j hj => by cases hj)); have hcell2 := (HBM.out.cell (World.block_lt_of_cell? W1 _ hcell)).trans hcell))
    have HBW1 := Aside0.mk (below_step (below_step hb1 hb2) hb3)
    have HW2S : Aside0 (w2.heap.size ≤ W1.heap.size) := ⟨hb3.size⟩
    have HWS : Aside0 (w.heap.size ≤ w2.heap.size) := ⟨(below_step hb1 hb2).size⟩
    have HRN := Aside0.mk hRn
    have HGC := Aside0.mk hgc
    have HG1 := Aside0.mk hg1
    have HG2 := Aside0.mk hg2
    have HHH := Aside0.mk (Kd.H_widen hH)
    have HCE := Aside0.mk hcell
    have HO0 : Aside0 ((Kd.slice 87 k64).R 89 W2 w2.heap.size (fun k => oki k ∨ W1.heap.size ≤ k) (.slice (some ⟨W1.heap.size, 0, none⟩) 0 gone.length) []) := ⟨fun k hk => Or.inr (by simp [Value.ownBlock] at hk; omega), [], own_weaken hown hb3.size, Reps.none _ _⟩
    clear hRn hgc hg1 hg2 hH hcell hcell0 hcell2 hmk hown hgr hcc hoki ho hb1 hb2 hb3 x0 d2 d3 d1 HCD HDP HMK HV HF
    go_loopg [12, 43] old.length (fun gk v12 v43 wx => ∃ (i : Nat), i + gk = old.length ∧ v43 = .int .i64 i ∧ Aside0 ((Kd.slice 87 k64).R 89 wx w2.heap.size (fun k => oki k ∨ W1.heap.size ≤ k) v12 (leftP (old.take i) (gone.take i))) ∧ Aside0 (∀ k, v12.ownBlock = some k → W1.heap.size ≤ k) ∧ Aside0 (Below W1.heap.size W1 wx))
    case atStart => exact ⟨0, by omega, rfl, by simpa [leftP] using HO0, ⟨fun k hk => by simp [Value.ownBlock] at hk; omega⟩, HBM⟩
    case round =>
      clear HO0 HBM
      obtain ⟨i, hi, rfl, HO, HOB, HB⟩ := hrel
      cases gk with
      | succ gk =>
        have hlt : i < old.length := by omega
        have hltg : i < gone.length := by have := HQ.out; omega
        have hii : (i : Int) < (old.length : Int) := by omega
        have hig : (i : Int) < (gone.length : Int) := by omega
        have hi0 : (0 : Int) ≤ (i : Int) := by omega
        obtain ⟨gn, capn, en, _⟩ := Kd.R_form HRN.out (by omega)
        cases en
        obtain ⟨cc, hcl, hM, hcc⟩ := Kd.R_getA HRN.out ([] : List S64) (i : Int) hi0 hii
        obtain ⟨vr, rfl, hRr⟩ := hM
        obtain ⟨Ai, ci, rfl⟩ := Kd.R_slice hRr
        have hcell := hcc 0 _ rfl
        have hgd : List.getD old (i : Int).toNat [] = old[i] := by simp [List.getD, hlt]
        rw [hgd] at hcell hRr
        have hcell2 : wr.cell? ⟨gn, i, none⟩ = some (.slice Ai old[i].length ci) := by
          have h1 : W1.cell? ⟨gn, i, none⟩ = some (.slice Ai old[i].length ci) := by rw [add_plain] at hcell; simpa [Kd.slice] using hcell
          exact (HB.out.cell (World.block_lt_of_cell? W1 _ h1)).trans h1
        obtain ⟨adg, hAg, hbg⟩ := Kd.at_bool HG.out (i : Int) hi0 hig
        cases hAg
        rw [Int.toNat_natCast] at hbg
        have hgb : rdOf false gone (i : Int) = gone[i] := by unfold rdOf; simp [List.getD, hltg]
        rw [hgb] at hbg
        have hBw := below_step HBW1.out HB.out
        replace hbg := (hBw.cell (World.block_lt_of_cell? w _ hbg)).trans hbg
        have HTL : Aside0 (leftP (old.take (i + 1)) (gone.take (i + 1)) = leftP (old.take i) (gone.take i) ++ (if gone[i] = true then [] else [old[i]])) := ⟨by
          rw [take_snoc hlt, take_snoc hltg]
          exact leftP_snoc _ _ _ _ (by rw [List.length_take, List.length_take]; omega)⟩
        have HPL : Aside0 ((leftP (old.take i) (gone.take i)).length ≤ 2000000) := ⟨by
          have := leftP_len (old.take i) (gone.take i)
          have h2 := HOL.out
          rw [List.length_take] at this
          omega⟩
        have HM := Aside0.mk (Kd.M_row hRr)
        clear hcell hcc hRr hgd hgb hBw
        generalize old[i] = row at *
        generalize leftP (old.take i) (gone.take i) = pre at *
        cases hgi : gone[i] with
        | true =>
          rw [hgi] at hbg HTL
          rw [if_pos rfl, List.append_nil] at HTL
          clear hgi
          go_wp2
          go_roundg gk
          case measure => omega
          case rel => exact ⟨i + 1, by omega, by first | rfl | (simp; done) | (have := HOL.out; simp; unfold wrap64; omega), ⟨by rw [HTL.out]; exact HO.out⟩, HOB, HB⟩
        | false =>
          rw [hgi] at hbg HTL
          rw [if_neg (by decide)] at HTL
          clear hgi
          have hp_ : (Kd.slice 87 k64).M wr w2.heap.size (fun k => oki k ∧ k < W1.heap.size) row [.slice Ai row.length ci] := (Kd.slice 87 k64).M_mono (fun k hk => ⟨hk.1.1, hk.2.2.1⟩) (Kd.M_below ((Kd.slice 87 k64).M_bound HM.out) HB.out)
          have HPP := Aside0.mk hp_
          have hl24 : (pre.length + 1) * 24 ≤ 140737488355328 := by have := HPL.out; omega
          have HBS : Aside0 (W1.heap.size ≤ wr.heap.size) := ⟨HB.out.size⟩
          clear hp_
          go_wp2_with ((with_reducible refine gate_builtin (b := .append) (xs := #[.tmp 53, .tmp 55]) rfl ?_); at_builtin; refine Kd.R_append (Kd.slice 87 k64) (w0 := wr) w2.heap.size rfl (.tmp 53) (.tmp 55) 41 89 (.slice none 0 0) 24 rfl Tryz.underlying41 info89 rfl (by decide) (by omega) u12 pre row [.slice Ai row.length ci] (fun k => oki k ∨ W1.heap.size ≤ k) (fun k => oki k ∧ k < W1.heap.size) rfl rfl HPP.out (fun k hk => ⟨Or.inl hk.1, fun he => by have := HOB.out k he.symm; omega⟩) (fun k hk => Or.inr (Nat.le_trans HBS.out hk)) HO.out (Below.refl _ _) (Nat.le_trans HW2S.out HBS.out) hl24 ?_; intro v1 w3 hv1 _ hg3 hat3)
          go_roundg gk
          case measure => omega
          case rel => exact ⟨i + 1, by omega, by first | rfl | (simp; done) | (have := HOL.out; simp; unfold wrap64; omega), ⟨by rw [HTL.out]; exact hv1⟩, ⟨fun k hk => by
            rcases hat3 with h | ⟨b, h, hle⟩
            · exact HOB.out k (h ▸ hk)
            · rw [h] at hk; injection hk with hk; have := HBS.out; omega⟩, ⟨HB.out.grown hg3 HBS.out (fun j hj => HOB.out j hj)⟩⟩
      | zero =>
        have e1 : old.take i = old := List.take_of_length_le (by omega)
        have e2 : gone.take i = gone := List.take_of_length_le (by have := HQ.out; omega)
        rw [e1, e2] at HO
        have hii : ¬ (i : Int) < (old.length : Int) := by omega
        obtain ⟨b, hb, hp⟩ := Option.bind_eq_some_iff.mp HP1.out
        have hwfl : ∀ row ∈ leftP old gone, ∀ x ∈ row, wfV x := by
          intro row hr
          have hl : n.toNat < d.length := by omega
          have : old ∈ d := by rw [← HOLD.out]; unfold rd_L13; rw [List.getD_eq_getElem?_getD, List.getElem?_eq_getElem hl]; exact List.getElem_mem hl
          exact HWD.out _ this row (leftP_mem _ _ row hr)
        have HWL := Aside0.mk hwfl
        generalize leftP old gone = left at *
        have HHB := Aside0.mk hb
        have HP2 := Aside0.mk hp
        obtain ⟨A5, c5, e5⟩ := Kd.R_slice HO.out
        subst e5
        clear e1 e2 hb hp hwfl HP1
        have hgc : wr.heap[g]? = some (.cells gcells 41 (0, 0)) := (HB.out.block g HG2.out).trans HGC.out
        have hfit : n.toNat + 1 ≤ gcells.size := by
          have h2 := (blk_cell HGC.out n.toNat).symm.trans HCE.out
          have := (Array.getElem?_eq_some_iff.1 h2).1
          omega
        have hS4 := (Kd.S_seg0 (Kd.H_below HHH.out HB.out) hn0 hnd (seg := [.slice A5 left.length c5]) (j := 0) (Nat.le_refl _) (x' := left) (okp := fun k => oki k ∨ W1.heap.size ≤ k) (Kd.M_row HO.out) (fun k hk => hk.elim Or.inl (fun h => Or.inr ⟨trivial, h⟩))).1
        have hoff : n.toNat * (Kd.slice 89 (Kd.slice 87 k64)).sz + 0 = n.toNat := by simp [Kd.slice]
        rw [hoff] at hS4
        have HW4 : Aside0 (Below w.heap.size w (wr.setCells g n.toNat [.slice A5 left.length c5])) := ⟨Go.below_setCells (Nat.le_trans HWS.out HG1.out) _ _ _ (below_step HBW1.out HB.out)⟩
        have hrun := run_store_run (P := Tryz.prog) 41 (.slice A5 left.length c5) [.slice A5 left.length c5] hgc rfl (by kernel_rfl) (by simpa using hfit) (by simp [Value.oneCell'])
        obtain ⟨W4, hW4⟩ : ∃ W4, W4 = wr.setCells g n.toNat [.slice A5 left.length c5] := ⟨_, rfl⟩
        rw [← hW4] at hS4 HW4 hrun
        have HRUN := Aside0.mk hrun
        have HS4 := Aside0.mk hS4; have HO4 := Aside0.mk (Kd.S_reads' hS4)
        clear hS4 hoff hrun hW4 hgc hfit
        go_wp2_with ((with_reducible refine gate_ (.store 41 (.tmp 61) (.tmp 60)) rfl ?_); refine wpList_put_run rfl 41 (.tmp 61) (.tmp 60) rfl rfl rfl rfl HRUN.out ?_)
        have hol : (d.set n.toNat left).length = d.length := List.length_set
        have HOL2 := Aside0.mk hol
        have HWF : Aside0 (∀ rows ∈ d.set n.toNat left, ∀ row ∈ rows, ∀ x ∈ row, wfV x) := ⟨by
          intro rs hr
          rcases List.mem_or_eq_of_mem_set hr with h1 | h1
          · exact HWD.out rs h1
          · rw [h1]; exact HWL.out⟩
        have HRF : Aside0 (∀ (m : Nat) (b : Bool) (W : World), m < s.length → Below W4.heap.size W4 W → refsP s (d.set n.toNat left) m (rd_T49 s m).f3 = some b → Calls Tryz.prog 73 #[.slice A0 s.length c0, .slice (some ⟨g, 0, none⟩) d.length cap, .int .i64 m] W fun e w' => e = .returned (.bool b) ∧ Below W.heap.size W w') := ⟨fun m b W hm hW hf => by
          have h1 := refsHold_walk A0 c0 s (some ⟨g, 0, none⟩) cap (d.set n.toNat left) m b W (Kd.C_below HS.out (below_step HW4.out hW)) hc0 (Kd.C_below (hol ▸ HO4.out.2.2) hW) (hol ▸ HO4.out.2.1) HWF.out (by omega) (by omega) (by rw [hol]; have := HLEN.out; omega) hf
          rw [hol] at h1
          exact h1⟩
        have HB40 := Aside0.mk (Below.refl W4.heap.size W4)
        have HC4 : Aside0 (d.length ≤ cap ∧ Kd.C (Kd.slice 89 (Kd.slice 87 k64)) W4 (some ⟨g, 0, none⟩) (d.set n.toNat left).length (d.set n.toNat left)) := ⟨⟨HO4.out.2.1, hol ▸ HO4.out.2.2⟩⟩
        clear hol hii hi HWF HO HOB HB HO4 HRUN
        go_loopg [64] s.length (fun gk v64 wx => ∃ (m : Nat), m + gk = s.length ∧ v64 = .int .i64 m ∧ Aside0 (Below W4.heap.size W4 wx) ∧ Aside0 (refsFromP s (d.set n.toNat left) 0 s = refsFromP s (d.set n.toNat left) m (s.drop m)))
        case atStart => exact ⟨0, by omega, rfl, HB40, ⟨by simp⟩⟩
        case round =>
          clear HB40
          obtain ⟨m, hm, rfl, HB, HE⟩ := hrel
          rename_i gk1
          cases gk with
          | zero =>
            have e : s.drop m = [] := List.drop_eq_nil_of_le (by omega)
            have he := HE.out
            rw [e, refsFromP] at he
            have hbt : b = true := by have := HHB.out; rw [he] at this; exact (Option.some.inj this).symm
            subst hbt
            have hp := HP2.out
            rw [if_pos rfl] at hp
            have hii : ¬ (m : Int) < (s.length : Int) := by omega
            cases hp
            clear he HE HHB HP2 e HRF
            go_wp2
            go_ret2
            exact ⟨_, rfl, Kd.S_below (Kd.S_lower HS4.out HWS.out) HB.out, below_step HW4.out HB.out⟩
          | succ gk =>
            have hlt : m < s.length := by omega
            have hii : (m : Int) < (s.length : Int) := by omega
            have hdr : s.drop m = s[m] :: s.drop (m + 1) := List.drop_eq_getElem_cons hlt
            have hrd : rd_T49 s (m : Int) = s[m] := by unfold rd_T49; simp [List.getD, hlt]
            have he := HE.out
            rw [hdr, refsFromP] at he
            have hb2 := HHB.out
            rw [he] at hb2
            obtain ⟨b1, hb1, hb3⟩ := Option.bind_eq_some_iff.mp hb2
            have HN := Aside0.mk (HRF.out m b1 wr hlt HB.out (by rw [hrd]; exact hb1))
            have HE2 : Aside0 (refsFromP s (d.set n.toNat left) 0 s = if b1 = true then refsFromP s (d.set n.toNat left) (m + 1) (s.drop (m + 1)) else some false) := ⟨by rw [he, hb1]; rfl⟩
            have HB3 := Aside0.mk hb3
            clear he hb2 hb1 hb3 HE hdr hrd HRF
            cases b1 with
            | false =>
              have hb3 := HB3.out
              rw [if_neg (by decide)] at hb3
              obtain rfl := Option.some.inj hb3
              have hp := HP2.out
              rw [if_neg (by decide)] at hp
              cases hp
              clear hb3 HHB HP2 HE2 HB3
              go_wp2_with (go_at_call 73; refine HN.out.mono ?_; rintro e w6 ⟨rfl, hb6⟩)
              go_ret2
              exact ⟨_, rfl, Kd.S_nil _ _ _ _ _, below_step HW4.out (below_step HB.out hb6)⟩
            | true =>
              rw [if_pos rfl] at HE2
              go_wp2_with (go_at_call 73; refine HN.out.mono ?_; rintro e w6 ⟨rfl, hb6⟩)
              go_roundg gk
              case measure => omega
              case rel => exact ⟨m + 1, by omega, by first | rfl | (simp; done) | (have := HS.out.2.1; simp; unfold wrap64; omega), ⟨below_step HB.out hb6⟩, HE2⟩
theorem delete_walk (k : Nat) (A0 : Option Addr) (c0 : Nat) (s : List S49) (A1 : Option Addr) (c1 : Nat) (d : Data) (nm : ByteArray) (A3 : Option Addr) (c3 : Nat) (gone : List Bool) (r1 : Data) (r2 : Int) (w : World)
    (hS : Kd.C k49 w A0 s.length s) (hc0 : s.length ≤ c0) (hD : Kd.C (Kd.slice 89 (Kd.slice 87 k64)) w A1 d.length d) (hc1 : d.length ≤ c1) (hG : Kd.C Kd.bool w A3 gone.length gone) (hc3 : gone.length ≤ c3)
    (hwd : wfData d) (hsd : dataP k s d = some true → smallData d) (hL : LaidL w) (h : deleteP k s d nm gone = some (r1, r2)) :
    Calls Tryz.prog 24 #[.slice A0 s.length c0, .slice A1 d.length c1, .string nm, .slice A3 gone.length c3] w fun e w' => ∃ (A : Option Addr) (c : Nat), e = .returned (.tuple #[.slice A r1.length c, .int .i64 r2]) ∧ r1.length ≤ c ∧ Kd.C (Kd.slice 89 (Kd.slice 87 k64)) w' A r1.length r1 ∧ Below w.heap.size w w' := by
  refine (deleteS_walk k A0 c0 s A1 c1 d nm A3 c3 gone r1 r2 w hS hc0 hD hc1 hG hc3 hwd hsd hL h).mono ?_
  rintro e w' ⟨v0, rfl, hv, hb⟩
  obtain ⟨A, c, rfl, hl, hC⟩ := Kd.S_reads hv
  exact ⟨A, c, rfl, hl, hC, hb⟩
end Go.Proofs.YthgfdnffnbclpaaGreatDoor.PAll
