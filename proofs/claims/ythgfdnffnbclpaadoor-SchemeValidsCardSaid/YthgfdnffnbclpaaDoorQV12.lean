import Derived.Test.YthgfdnffnbclpaaDoorQV04
import Derived.Test.YthgfdnffnbclpaaDoorQV10
set_option linter.unusedVariables false
set_option linter.unusedSimpArgs false
namespace Go.Proofs.YthgfdnffnbclpaaDoor.PAll
open Go.RowKit Go.Proofs.YthgfdnffnbclpaaDoorW.PrintWords Go.Proofs.YthgfdnffnbclpaaDoorW.PrintLast Go.Proofs.YthgfdnffnbclpaaDoorW.PrintMore

/-! ### scheme_validRef: function 52 -/
mutual
def scheme_validRef.j0 : Nat → List (S49) → Bool → ByteArray → List (S78) → List (List Int) → List (S75) → List Int → List Int → Int → Int → Option (Bool)
  | 0, _, _, _, _, _, _, _, _, _, _ => none
  | k + 1, x0, x42, x102000, x102001, x102002, x102003, x102004, x103000, x103001, x103002 => if x42 = true then (some false) else (if 0 ≤ x103001 then (if x103001 < (x0.length : Int) then (if 0 ≤ x103002 then (if x103002 < (((rd_T49 x0 x103001).f2).length : Int) then (if ((rd_L6 ((rd_T49 x0 x103001).f2) x103002).length : Int) = (x103000.length : Int) then (scheme_validRef.l0 k x0 (rd_L6 ((rd_T49 x0 x103001).f2) x103002) x103000 (x103000.length : Int) 0 x102000 x102001 x102002 x102003 x102004 x103000 x103001 x103002) else (some false)) else (none)) else (none)) else (none)) else (none))
def scheme_validRef.l0 : Nat → List (S49) → List Int → List Int → Int → Int → ByteArray → List (S78) → List (List Int) → List (S75) → List Int → List Int → Int → Int → Option (Bool)
  | 0, _, _, _, _, _, _, _, _, _, _, _, _, _ => none
  | k + 1, x0, x7, x60, x61, x62, x102000, x102001, x102002, x102003, x102004, x103000, x103001, x103002 => if x62 < x61 then (if 0 ≤ x62 then (if x62 < (x60.length : Int) then (if (rd x60 x62) < 0 then (some false) else (if (rd x60 x62) ≥ (x102001.length : Int) then (some false) else (if 0 ≤ (rd x60 x62) then (if (rd x60 x62) < (x102001.length : Int) then (if 0 ≤ x103001 then (if x103001 < (x0.length : Int) then (if x62 < (x7.length : Int) then (if 0 ≤ (rd x7 x62) then (if (rd x7 x62) < (((rd_T49 x0 x103001).f1).length : Int) then (if ((rd_T78 x102001 (rd x60 x62)).f1) = ((rd_T78 ((rd_T49 x0 x103001).f1) (rd x7 x62)).f1) then (scheme_validRef.l0 k x0 x7 x60 x61 (wrap64 (x62 + 1)) x102000 x102001 x102002 x102003 x102004 x103000 x103001 x103002) else (some false)) else (none)) else (none)) else (none)) else (none)) else (none)) else (none)) else (none)))) else (none)) else (none)) else (some true)
end
def scheme_validRef.f (k : Nat) (l0 : List (S49)) (a1_0 : ByteArray) (l1_1 : List (S78)) (l1_2 : List (List Int)) (l1_3 : List (S75)) (l1_4 : List Int) (l2_0 : List Int) (a2_1 : Int) (a2_2 : Int) : Option (Bool) := if a2_1 < 0 then (scheme_validRef.j0 k l0 true a1_0 l1_1 l1_2 l1_3 l1_4 l2_0 a2_1 a2_2) else (if a2_1 ≥ (l0.length : Int) then (scheme_validRef.j0 k l0 true a1_0 l1_1 l1_2 l1_3 l1_4 l2_0 a2_1 a2_2) else (if a2_2 < 0 then (scheme_validRef.j0 k l0 true a1_0 l1_1 l1_2 l1_3 l1_4 l2_0 a2_1 a2_2) else (if 0 ≤ a2_1 then (if a2_1 < (l0.length : Int) then (if a2_2 ≥ (((rd_T49 l0 a2_1).f2).length : Int) then (scheme_validRef.j0 k l0 true a1_0 l1_1 l1_2 l1_3 l1_4 l2_0 a2_1 a2_2) else ((scheme_distinct_int.f l2_0).bind fun t104 => (scheme_validRef.j0 k l0 (!t104) a1_0 l1_1 l1_2 l1_3 l1_4 l2_0 a2_1 a2_2))) else (none)) else (none))))
theorem scheme_validRef.mono_l : ∀ k, (∀ y0 y1 y2 y3 y4 y5 y6 y7 y8 y9, LeO (scheme_validRef.j0 k y0 y1 y2 y3 y4 y5 y6 y7 y8 y9) (scheme_validRef.j0 (k + 1) y0 y1 y2 y3 y4 y5 y6 y7 y8 y9)) ∧ (∀ y0 y1 y2 y3 y4 y5 y6 y7 y8 y9 y10 y11 y12, LeO (scheme_validRef.l0 k y0 y1 y2 y3 y4 y5 y6 y7 y8 y9 y10 y11 y12) (scheme_validRef.l0 (k + 1) y0 y1 y2 y3 y4 y5 y6 y7 y8 y9 y10 y11 y12))
  | 0 => ⟨fun _ _ _ _ _ _ _ _ _ _ r h => by simp [scheme_validRef.j0] at h, fun _ _ _ _ _ _ _ _ _ _ _ _ _ r h => by simp [scheme_validRef.l0] at h⟩
  | k + 1 => by
    obtain ⟨ih0, ih1⟩ := scheme_validRef.mono_l k
    refine ⟨?_, ?_⟩
    · intro y0 y1 y2 y3 y4 y5 y6 y7 y8 y9
      unfold scheme_validRef.j0
      repeat' first
      | (with_reducible exact ih0 _ _ _ _ _ _ _ _ _ _)
      | (with_reducible exact ih1 _ _ _ _ _ _ _ _ _ _ _ _ _)
      | (with_reducible exact LeO.refl _)
      | (with_reducible exact LeO.none _)
      | (with_reducible refine LeO.ite ?_ ?_)
      | (with_reducible refine LeO.bind ?_ (fun _ => ?_))
      | exact ih0 _ _ _ _ _ _ _ _ _ _
      | exact ih1 _ _ _ _ _ _ _ _ _ _ _ _ _
      | exact LeO.none _
      | refine LeO.ite ?_ ?_
      | refine LeO.bind ?_ (fun _ => ?_)
    · intro y0 y1 y2 y3 y4 y5 y6 y7 y8 y9 y10 y11 y12
      unfold scheme_validRef.l0
      repeat' first
      | (with_reducible exact ih0 _ _ _ _ _ _ _ _ _ _)
      | (with_reducible exact ih1 _ _ _ _ _ _ _ _ _ _ _ _ _)
      | (with_reducible exact LeO.refl _)
      | (with_reducible exact LeO.none _)
      | (with_reducible refine LeO.ite ?_ ?_)
      | (with_reducible refine LeO.bind ?_ (fun _ => ?_))
      | exact ih0 _ _ _ _ _ _ _ _ _ _
      | exact ih1 _ _ _ _ _ _ _ _ _ _ _ _ _
      | exact LeO.none _
      | refine LeO.ite ?_ ?_
      | refine LeO.bind ?_ (fun _ => ?_)
theorem scheme_validRef.mono : ∀ a0 a1 a2 a3 a4 a5 a6 a7 a8 k, LeO (scheme_validRef.f k a0 a1 a2 a3 a4 a5 a6 a7 a8) (scheme_validRef.f (k + 1) a0 a1 a2 a3 a4 a5 a6 a7 a8) := by
  intro a0 a1 a2 a3 a4 a5 a6 a7 a8 k
  obtain ⟨ih0, ih1⟩ := scheme_validRef.mono_l k
  unfold scheme_validRef.f
  repeat' first
      | (with_reducible exact ih0 _ _ _ _ _ _ _ _ _ _)
      | (with_reducible exact ih1 _ _ _ _ _ _ _ _ _ _ _ _ _)
      | (with_reducible exact LeO.refl _)
      | (with_reducible exact LeO.none _)
      | (with_reducible refine LeO.ite ?_ ?_)
      | (with_reducible refine LeO.bind ?_ (fun _ => ?_))
      | exact ih0 _ _ _ _ _ _ _ _ _ _
      | exact ih1 _ _ _ _ _ _ _ _ _ _ _ _ _
      | exact LeO.none _
      | refine LeO.ite ?_ ?_
      | refine LeO.bind ?_ (fun _ => ?_)

set_option maxHeartbeats 4000000 in
set_option maxRecDepth 100000 in
theorem scheme_validRef.calls (k : Nat) (A0 : Option Addr) (c0 : Nat) (l0 : List (S49)) (a1_0 : ByteArray) (A1_1 : Option Addr) (c1_1 : Nat) (l1_1 : List (S78)) (A1_2 : Option Addr) (c1_2 : Nat) (l1_2 : List (List Int)) (A1_3 : Option Addr) (c1_3 : Nat) (l1_3 : List (S75)) (A1_4 : Option Addr) (c1_4 : Nat) (l1_4 : List Int) (A2_0 : Option Addr) (c2_0 : Nat) (l2_0 : List Int) (a2_1 : Int) (a2_2 : Int) (r : Bool) (w : World) (hr0 : Kd.C k49 w A0 l0.length l0) (hc0 : l0.length ≤ c0) (hr1_1 : Kd.C k78 w A1_1 l1_1.length l1_1) (hc1_1 : l1_1.length ≤ c1_1) (hr1_2 : Kd.C (Kd.slice 3 (Kd.int .i64)) w A1_2 l1_2.length l1_2) (hc1_2 : l1_2.length ≤ c1_2) (hr1_3 : Kd.C k75 w A1_3 l1_3.length l1_3) (hc1_3 : l1_3.length ≤ c1_3) (hr1_4 : Kd.C (Kd.int .i64) w A1_4 l1_4.length l1_4) (hc1_4 : l1_4.length ≤ c1_4) (hr2_0 : Kd.C (Kd.int .i64) w A2_0 l2_0.length l2_0) (hc2_0 : l2_0.length ≤ c2_0) (h : scheme_validRef.f k l0 a1_0 l1_1 l1_2 l1_3 l1_4 l2_0 a2_1 a2_2 = some r) :
    Calls Tryd.prog 52 #[.slice A0 l0.length c0, .agg #[.string a1_0, .slice A1_1 l1_1.length c1_1, .slice A1_2 l1_2.length c1_2, .slice A1_3 l1_3.length c1_3, .slice A1_4 l1_4.length c1_4], .agg #[.slice A2_0 l2_0.length c2_0, .int .i64 a2_1, .int .i64 a2_2]] w fun e w' => e = .returned (.bool r) ∧ Below w.heap.size w w' := by
  have HR := Aside0.mk hr0
  have HR1 := Aside0.mk hr1_1
  have HR2 := Aside0.mk hr2_0
  have HH := Aside0.mk h
  clear hr0 hr1_1 hr1_2 hr1_3 hr1_4 hr2_0 h hc1_1 hc1_2 hc1_3 hc1_4
  go_enter Tryd.func52, Tryd.ntmps52
  go_wp2
  obtain ⟨B, hB⟩ : ∃ B, B = w.heap.size := ⟨_, rfl⟩
  obtain ⟨W1, hW1⟩ : ∃ W, W = (w.alloc (Obj.cells #[Value.string a1_0, Value.slice A1_1 l1_1.length c1_1, Value.slice A1_2 l1_2.length c1_2, Value.slice A1_3 l1_3.length c1_3, Value.slice A1_4 l1_4.length c1_4] 49)).alloc (Obj.cells #[Value.slice A2_0 l2_0.length c2_0, Value.int IntKind.i64 a2_1, Value.int IntKind.i64 a2_2] 75) := ⟨_, rfl⟩
  have hb4 : W1.heap[B]? = some (.cells #[Value.string a1_0, Value.slice A1_1 l1_1.length c1_1, Value.slice A1_2 l1_2.length c1_2, Value.slice A1_3 l1_3.length c1_3, Value.slice A1_4 l1_4.length c1_4] 49 (0, 0)) := by
    rw [hW1, hB]; exact blk_alloc (Go.Deep.blk_alloc_new w _) _
  have hb5 : W1.heap[B + 1]? = some (.cells #[Value.slice A2_0 l2_0.length c2_0, Value.int IntKind.i64 a2_1, Value.int IntKind.i64 a2_2] 75 (0, 0)) := by
    rw [hW1, hB]; have := Go.Deep.blk_alloc_new (w.alloc (Obj.cells #[Value.string a1_0, Value.slice A1_1 l1_1.length c1_1, Value.slice A1_2 l1_2.length c1_2, Value.slice A1_3 l1_3.length c1_3, Value.slice A1_4 l1_4.length c1_4] 49)) (Obj.cells #[Value.slice A2_0 l2_0.length c2_0, Value.int IntKind.i64 a2_1, Value.int IntKind.i64 a2_2] 75); simpa using this
  have hBW : Below w.heap.size w W1 := by rw [hW1]; exact ((Below.refl _ _).alloc (Nat.le_refl _) _).alloc (by simp) _
  rw [← hW1, ← hB]
  clear hW1 hB
  have KB : Aside0 (∀ W, Below W1.heap.size W1 W → W.cell? ⟨B + 1, 0, none⟩ = some (Value.slice A2_0 l2_0.length c2_0) ∧ W.cell? ⟨B + 1, 1, none⟩ = some (Value.int IntKind.i64 a2_1) ∧ W.cell? ⟨B + 1, 2, none⟩ = some (Value.int IntKind.i64 a2_2) ∧ W.cell? ⟨B, 1, none⟩ = some (Value.slice A1_1 l1_1.length c1_1) ∧ Below W1.heap.size W1 W) := ⟨fun W hW => by
    have h5 := (hW.block _ (blk_lt hb5)).trans hb5
    have h4 := (hW.block _ (blk_lt hb4)).trans hb4
    exact ⟨(blk_cell h5 0).trans rfl, (blk_cell h5 1).trans rfl, (blk_cell h5 2).trans rfl, (blk_cell h4 1).trans rfl, hW⟩⟩
  have HBW := Aside0.mk hBW
  clear hb4 hb5 hBW
  go_cut [42] (fun v42 wc => ∃ (kq : Nat) (b : Bool), v42 = .bool b ∧ Aside0 (scheme_validRef.j0 kq l0 b a1_0 l1_1 l1_2 l1_3 l1_4 l2_0 a2_1 a2_2 = some r) ∧ Aside0 (Below W1.heap.size W1 wc))
  case first =>
    obtain ⟨c0_, c1_, c2_, c3_, hB0⟩ := KB.out W1 (Below.refl _ _)
    have HB0 := Aside0.mk hB0
    have h := HH.out
    unfold scheme_validRef.f at h
    clear hB0 HH
    by_cases q1 : a2_1 < 0
    · rw [if_pos q1] at h
      have d1 : decide (a2_1 < 0) = true := decide_eq_true q1
      have HR' := Aside0.mk h
      clear h q1
      go_quiet (fail)
      go_wp2
      go_meet
      case rel => exact ⟨_, true, by first | rfl | (simp; done) | (simp [d1]; done), HR', ⟨pw_below_drewN (Below.refl _ _) _⟩⟩
    rw [if_neg q1] at h
    have d1 : decide (a2_1 < 0) = false := decide_eq_false q1
    by_cases q2 : a2_1 ≥ (l0.length : Int)
    · rw [if_pos q2] at h
      have d2 : decide ((l0.length : Int) ≤ a2_1) = true := decide_eq_true q2
      have HR' := Aside0.mk h
      clear h q1 q2
      go_quiet (fail)
      go_wp2
      go_meet
      case rel => exact ⟨_, true, by first | rfl | (simp; done) | (simp [d1]; done), HR', ⟨pw_below_drewN (Below.refl _ _) _⟩⟩
    rw [if_neg q2] at h
    have d2 : decide ((l0.length : Int) ≤ a2_1) = false := decide_eq_false q2
    by_cases q3 : a2_2 < 0
    · rw [if_pos q3] at h
      have d3 : decide (a2_2 < 0) = true := decide_eq_true q3
      have HR' := Aside0.mk h
      clear h q1 q2 q3
      go_quiet (fail)
      go_wp2
      go_meet
      case rel => exact ⟨_, true, by first | rfl | (simp; done) | (simp [d1]; done), HR', ⟨pw_below_drewN (Below.refl _ _) _⟩⟩
    rw [if_neg q3] at h
    have d3 : decide (a2_2 < 0) = false := decide_eq_false q3
    have h1 : 0 ≤ a2_1 := by omega
    have h2 : a2_1 < (l0.length : Int) := by omega
    rw [if_pos h1, if_pos h2] at h
    have hCw := Kd.C_below HR.out (below_step HBW.out (Below.refl _ _))
    obtain ⟨ad, A1, c1, A2, c2, A3, c3, A4, c4, hA, hx0, hx1, hx2, hx3, hx4, g1, h1_, g2, h2_, g3, h3_, g4, h4_⟩ := at_T49 hCw a2_1 h1 h2
    cases hA
    clear hCw hx0 hx1 hx3 hx4 g1 h1_ g2 h2_ g3 h3_ g4 h4_
    generalize rd_T49 l0 a2_1 = x at *
    by_cases q4 : a2_2 ≥ (x.f2.length : Int)
    · rw [if_pos q4] at h
      have d4 : decide ((x.f2.length : Int) ≤ a2_2) = true := decide_eq_true q4
      have HR' := Aside0.mk h
      clear h q1 q2 q3 q4
      go_quiet (fail)
      go_wp2
      go_meet
      case rel => exact ⟨_, true, by first | rfl | (simp; done) | (simp [d1]; done), HR', ⟨pw_below_drewN (Below.refl _ _) _⟩⟩
    rw [if_neg q4] at h
    have d4 : decide ((x.f2.length : Int) ≤ a2_2) = false := decide_eq_false q4
    obtain ⟨b, hd, h⟩ := Option.bind_eq_some_iff.mp h
    have HR' := Aside0.mk h
    have HD : Aside0 (∀ W, Below W1.heap.size W1 W → Calls Tryd.prog 74 #[.slice A2_0 l2_0.length c2_0] W fun e w' => e = .returned (.bool b) ∧ Below W.heap.size W w') := ⟨fun W hW => scheme_distinct_int.calls A2_0 c2_0 l2_0 b W (Kd.C_below HR2.out (below_step HBW.out hW)) hc2_0 hd⟩
    have KS : ∀ W, Below W1.heap.size W1 W → W.cell? ⟨B + 1, 0, none⟩ = some (Value.slice A2_0 l2_0.length c2_0) ∧ W.cell? ⟨B + 1, 1, none⟩ = some (Value.int IntKind.i64 a2_1) ∧ W.cell? ⟨B + 1, 2, none⟩ = some (Value.int IntKind.i64 a2_2) ∧ W.cell? ⟨(ad.add (a2_1.toNat * 5)).block, (ad.add (a2_1.toNat * 5)).off + 2, none⟩ = some (Value.slice A2 x.f2.length c2) ∧ Below W1.heap.size W1 W := fun W hW => by
      obtain ⟨y0, y1, y2, y3, y4⟩ := KB.out W hW
      exact ⟨y0, y1, y2, (hW.cell (World.block_lt_of_cell? W1 _ hx2)).trans hx2, y4⟩
    clear h q1 q2 q3 q4 hd HB0 HR HR1 HR2 hx2 c0_ c1_ c2_ c3_ KB
    go_region_held3 (fun w' => w'.cell? ⟨B + 1, 0, none⟩ = some (Value.slice A2_0 l2_0.length c2_0) ∧ w'.cell? ⟨B + 1, 1, none⟩ = some (Value.int IntKind.i64 a2_1) ∧ w'.cell? ⟨B + 1, 2, none⟩ = some (Value.int IntKind.i64 a2_2) ∧ w'.cell? ⟨(ad.add (a2_1.toNat * 5)).block, (ad.add (a2_1.toNat * 5)).off + 2, none⟩ = some (Value.slice A2 x.f2.length c2) ∧ Below W1.heap.size W1 w') (first | exact KS _ (below_drew1 (Below.refl _ _)) | exact KS _ (below_step (below_drew1 (Below.refl _ _)) hb1)) ((go_at_call 74; refine (HD.out _ (below_drew1 (Below.refl _ _))).mono ?_; rintro e w1 ⟨rfl, hb1⟩))
    all_goals go_wp2
    go_meet
    case rel => exact ⟨_, !b, by first | rfl | (simp; done), HR', ⟨below_step (below_drew1 (Below.refl _ _)) hb1⟩⟩
  case rest =>
    clear HH
    obtain ⟨kq, b, rfl, HA, HB⟩ := hcut
    have KC : Aside0 (∀ W, Below W1.heap.size W1 W → W.cell? ⟨B + 1, 0, none⟩ = some (Value.slice A2_0 l2_0.length c2_0) ∧ W.cell? ⟨B + 1, 1, none⟩ = some (Value.int IntKind.i64 a2_1) ∧ W.cell? ⟨B + 1, 2, none⟩ = some (Value.int IntKind.i64 a2_2) ∧ W.cell? ⟨B, 1, none⟩ = some (Value.slice A1_1 l1_1.length c1_1) ∧ Below W1.heap.size W1 W) := KB
    clear KB
    cases kq with
    | zero => exact absurd HA.out (by simp [scheme_validRef.j0])
    | succ k1 =>
      have h := HA.out
      clear HA
      simp only [scheme_validRef.j0] at h
      cases b with
      | true =>
        rw [if_pos rfl] at h
        obtain rfl := Option.some.inj h
        clear h
        go_wp2
        go_ret
        exact ⟨rfl, below_step HBW.out HB.out⟩
      | false =>
        rw [if_neg (by decide)] at h
        by_cases h1 : 0 ≤ a2_1
        case neg => rw [if_neg h1] at h; cases h
        by_cases h2 : a2_1 < (l0.length : Int)
        case neg => rw [if_pos h1, if_neg h2] at h; cases h
        by_cases h3 : 0 ≤ a2_2
        case neg => rw [if_pos h1, if_pos h2, if_neg h3] at h; cases h
        rw [if_pos h1, if_pos h2, if_pos h3] at h
        obtain ⟨ad, A1, c1, A2, c2, A3, c3, A4, c4, hA, hx0, hx1, hx2, hx3, hx4, g1, h1_, g2, h2_, g3, h3_, g4, h4_⟩ := at_T49 (Kd.C_below HR.out HBW.out) a2_1 h1 h2
        cases hA
        clear hx0 hx3 hx4 g2 g3 h3_ g4 h4_ g1
        generalize hxd : rd_T49 l0 a2_1 = x at *
        have HXD := Aside0.mk hxd
        clear hxd
        by_cases h4 : a2_2 < (x.f2.length : Int)
        case neg => rw [if_neg h4] at h; cases h
        rw [if_pos h4] at h
        obtain ⟨ak, Ak, ck, hAk, hk, hck, hCk⟩ := at_L6 h2_ a2_2 h3 h4
        cases hAk
        clear h2_
        generalize rd_L6 x.f2 a2_2 = key at *
        have HK := Aside0.mk hCk
        have HC := Aside0.mk h1_
        have KX : Aside0 (∀ W, Below W1.heap.size W1 W → W.cell? ⟨(ad.add (a2_1.toNat * 5)).block, (ad.add (a2_1.toNat * 5)).off + 2, none⟩ = some (Value.slice (some ak) x.f2.length c2) ∧ W.cell? (ak.add a2_2.toNat) = some (.slice Ak key.length ck) ∧ W.cell? ⟨(ad.add (a2_1.toNat * 5)).block, (ad.add (a2_1.toNat * 5)).off + 1, none⟩ = some (Value.slice A1 x.f1.length c1)) := ⟨fun W hW =>
          ⟨(hW.cell (World.block_lt_of_cell? W1 _ hx2)).trans hx2, (hW.cell (World.block_lt_of_cell? W1 _ hk)).trans hk, (hW.cell (World.block_lt_of_cell? W1 _ hx1)).trans hx1⟩⟩
        have HP := Aside0.mk h
        obtain ⟨y0, y1, y2, _, _⟩ := KC.out wc HB.out
        obtain ⟨z0, z1, _⟩ := KX.out wc HB.out
        clear h hx1 hx2 hk hCk h1_
        go_wp2
        go_quiet (fail)
        by_cases q : (key.length : Int) = (l2_0.length : Int)
        case neg =>
          have h := HP.out
          rw [if_neg q] at h
          obtain rfl := Option.some.inj h
          have e1 : ((key.length : Int) == (l2_0.length : Int)) = false := beq_eq_false_iff_ne.mpr q
          have e2 : ((key.length : Int) != (l2_0.length : Int)) = true := by rw [bne, e1]; rfl
          clear h q HP
          go_wp2
          go_ret
          exact ⟨rfl, below_step HBW.out (pw_below_drewN HB.out _)⟩
        have h := HP.out
        rw [if_pos q] at h
        have e1 : ((key.length : Int) == (l2_0.length : Int)) = true := beq_iff_eq.mpr q
        have e2 : ((key.length : Int) != (l2_0.length : Int)) = false := by rw [bne, e1]; rfl
        have HP2 := Aside0.mk h
        clear h q HP
        go_wp2
        go_loopg [62] k1 (fun gk v62 wx => ∃ (i : Int), v62 = .int .i64 i ∧ Aside0 (Below W1.heap.size W1 wx) ∧ Aside0 (scheme_validRef.l0 gk l0 key l2_0 (l2_0.length : Int) i a1_0 l1_1 l1_2 l1_3 l1_4 l2_0 a2_1 a2_2 = some r))
        case atStart => exact ⟨0, rfl, ⟨pw_below_drewN HB.out _⟩, HP2⟩
        case round =>
          clear HB HP2 y0 y1 y2 z0 z1 e1 e2
          obtain ⟨i, rfl, HW, HP⟩ := hrel
          cases gk with
          | zero => exact absurd HP.out (by simp [scheme_validRef.l0])
          | succ gk =>
            have hp := HP.out
            simp only [scheme_validRef.l0] at hp
            clear HP
            by_cases hii : i < (l2_0.length : Int)
            case neg =>
              rw [if_neg hii] at hp
              obtain rfl := Option.some.inj hp
              clear hp
              go_wp2
              go_ret
              exact ⟨rfl, below_step HBW.out HW.out⟩
            by_cases hi0 : 0 ≤ i
            case neg => rw [if_pos hii, if_neg hi0] at hp; cases hp
            rw [if_pos hii, if_pos hi0, if_pos hii] at hp
            have hBw := below_step HBW.out HW.out
            obtain ⟨ac, hac, hxc⟩ := Kd.at_int (Kd.C_below HR2.out hBw) i hi0 hii
            cases hac
            generalize rd l2_0 i = cc at *
            obtain ⟨y0, y1, y2, y3, _⟩ := KC.out wr HW.out
            obtain ⟨z0, z1, z2⟩ := KX.out wr HW.out
            have HBw := Aside0.mk hBw
            clear hBw
            by_cases q1 : cc < 0
            · rw [if_pos q1] at hp
              obtain rfl := Option.some.inj hp
              have d1 : decide (cc < 0) = true := decide_eq_true q1
              clear hp q1
              go_wp2
              go_quiet (fail)
              go_wp2
              go_ret
              exact ⟨rfl, pw_below_drewN HBw.out _⟩
            have d1 : decide (cc < 0) = false := decide_eq_false q1
            rw [if_neg q1] at hp
            by_cases q2 : cc ≥ (l1_1.length : Int)
            · rw [if_pos q2] at hp
              obtain rfl := Option.some.inj hp
              have d2 : decide ((l1_1.length : Int) ≤ cc) = true := decide_eq_true q2
              clear hp q1 q2
              go_wp2
              go_quiet (fail)
              go_wp2
              go_ret
              exact ⟨rfl, pw_below_drewN HBw.out _⟩
            have d2 : decide ((l1_1.length : Int) ≤ cc) = false := decide_eq_false q2
            have n1 : 0 ≤ cc := by omega
            have n2 : cc < (l1_1.length : Int) := by omega
            rw [if_neg q2, if_pos n1, if_pos n2, if_pos h1, if_pos h2, HXD.out] at hp
            by_cases n3 : i < (key.length : Int)
            case neg => rw [if_neg n3] at hp; cases hp
            rw [if_pos n3] at hp
            obtain ⟨aq, haq, hxq⟩ := Kd.at_int (Kd.C_below HK.out HW.out) i hi0 n3
            cases haq
            generalize rd key i = kk at *
            by_cases n4 : 0 ≤ kk
            case neg => rw [if_neg n4] at hp; cases hp
            by_cases n5 : kk < (x.f1.length : Int)
            case neg => rw [if_pos n4, if_neg n5] at hp; cases hp
            rw [if_pos n4, if_pos n5] at hp
            obtain ⟨a1, ha1, _, hk1, _⟩ := at_T78 (Kd.C_below HR1.out HBw.out) cc n1 n2
            cases ha1
            obtain ⟨a2, ha2, _, hk2, _⟩ := at_T78 (Kd.C_below HC.out HW.out) kk n4 n5
            cases ha2
            generalize (rd_T78 l1_1 cc).f1 = t1 at *
            generalize (rd_T78 x.f1 kk).f1 = t2 at *
            by_cases q3 : t1 = t2
            · rw [if_pos q3] at hp
              have e1 : (t1 == t2) = true := beq_iff_eq.mpr q3
              have e2 : (t1 != t2) = false := by rw [bne, e1]; rfl
              have HP := Aside0.mk hp
              clear hp q1 q2 q3
              go_wp2
              go_quiet (fail)
              go_wp2
              go_roundg gk
              case measure => omega
              case rel => exact ⟨wrap64 (i + 1), by first | rfl | (simp; done), ⟨pw_below_drewN HW.out _⟩, HP⟩
            · rw [if_neg q3] at hp
              obtain rfl := Option.some.inj hp
              have e1 : (t1 == t2) = false := beq_eq_false_iff_ne.mpr q3
              have e2 : (t1 != t2) = true := by rw [bne, e1]; rfl
              clear hp q1 q2 q3
              go_wp2
              go_quiet (fail)
              go_wp2
              go_ret
              exact ⟨rfl, pw_below_drewN HBw.out _⟩
end Go.Proofs.YthgfdnffnbclpaaDoor.PAll
namespace Go.Proofs.YthgfdnffnbclpaaDoor.PAll
open Go.RowKit Go.Proofs.YthgfdnffnbclpaaDoorW.PrintWords Go.Proofs.YthgfdnffnbclpaaDoorW.PrintLast Go.Proofs.YthgfdnffnbclpaaDoorW.PrintMore

/-! ### scheme_badRef -/
def scheme_badRef.f (k : Nat) (l0_0 : List Int) (a0_1 : Int) (a0_2 : Int) (l1 : List (S49)) (a2_0 : ByteArray) (l2_1 : List (S78)) (l2_2 : List (List Int)) (l2_3 : List (S75)) (l2_4 : List Int) : Option (Bool) := (scheme_validRef.f k l1 a2_0 l2_1 l2_2 l2_3 l2_4 l0_0 a0_1 a0_2).bind fun t275 => (some (!t275))
theorem scheme_badRef.mono : ∀ a0 a1 a2 a3 a4 a5 a6 a7 a8 k, LeO (scheme_badRef.f k a0 a1 a2 a3 a4 a5 a6 a7 a8) (scheme_badRef.f (k + 1) a0 a1 a2 a3 a4 a5 a6 a7 a8) := by
  intro a0 a1 a2 a3 a4 a5 a6 a7 a8 k
  unfold scheme_badRef.f
  repeat' first
      | (with_reducible exact scheme_validRef.mono _ _ _ _ _ _ _ _ _ _)
      | (with_reducible exact LeO.refl _)
      | (with_reducible exact LeO.none _)
      | (with_reducible refine LeO.ite ?_ ?_)
      | (with_reducible refine LeO.bind ?_ (fun _ => ?_))
      | exact scheme_validRef.mono _ _ _ _ _ _ _ _ _ _
      | exact LeO.none _
      | refine LeO.ite ?_ ?_
      | refine LeO.bind ?_ (fun _ => ?_)

/-! ### scheme_idxBadRef -/
def scheme_idxBadRef.l0 : Nat → List (S75) → List (S49) → Int → Int → ByteArray → List (S78) → List (List Int) → List (S75) → List Int → Option (Int)
  | 0, _, _, _, _, _, _, _, _, _ => none
  | k + 1, x0, x1, x7, x8, x277000, x277001, x277002, x277003, x277004 => if x8 < x7 then (if 0 ≤ x8 then (if x8 < (x0.length : Int) then ((scheme_badRef.f k ((rd_T75 x0 x8).f0) ((rd_T75 x0 x8).f1) ((rd_T75 x0 x8).f2) x1 x277000 x277001 x277002 x277003 x277004).bind fun t278 => (if t278 = true then (some x8) else (scheme_idxBadRef.l0 k x0 x1 x7 (wrap64 (x8 + 1)) x277000 x277001 x277002 x277003 x277004))) else (none)) else (none)) else (some (-1))
def scheme_idxBadRef.f (k : Nat) (l0 : List (S75)) (l1 : List (S49)) (a2_0 : ByteArray) (l2_1 : List (S78)) (l2_2 : List (List Int)) (l2_3 : List (S75)) (l2_4 : List Int) : Option (Int) := scheme_idxBadRef.l0 k l0 l1 (l0.length : Int) 0 a2_0 l2_1 l2_2 l2_3 l2_4
theorem scheme_idxBadRef.mono_l : ∀ k, (∀ y0 y1 y2 y3 y4 y5 y6 y7 y8, LeO (scheme_idxBadRef.l0 k y0 y1 y2 y3 y4 y5 y6 y7 y8) (scheme_idxBadRef.l0 (k + 1) y0 y1 y2 y3 y4 y5 y6 y7 y8))
  | 0 => fun _ _ _ _ _ _ _ _ _ r h => by simp [scheme_idxBadRef.l0] at h
  | k + 1 => by
    have ih0 := scheme_idxBadRef.mono_l k
    · intro y0 y1 y2 y3 y4 y5 y6 y7 y8
      unfold scheme_idxBadRef.l0
      repeat' first
      | (with_reducible exact ih0 _ _ _ _ _ _ _ _ _)
      | (with_reducible exact scheme_badRef.mono _ _ _ _ _ _ _ _ _ _)
      | (with_reducible exact LeO.refl _)
      | (with_reducible exact LeO.none _)
      | (with_reducible refine LeO.ite ?_ ?_)
      | (with_reducible refine LeO.bind ?_ (fun _ => ?_))
      | exact ih0 _ _ _ _ _ _ _ _ _
      | exact scheme_badRef.mono _ _ _ _ _ _ _ _ _ _
      | exact LeO.none _
      | refine LeO.ite ?_ ?_
      | refine LeO.bind ?_ (fun _ => ?_)
theorem scheme_idxBadRef.mono : ∀ a0 a1 a2 a3 a4 a5 a6 k, LeO (scheme_idxBadRef.f k a0 a1 a2 a3 a4 a5 a6) (scheme_idxBadRef.f (k + 1) a0 a1 a2 a3 a4 a5 a6) := by
  intro a0 a1 a2 a3 a4 a5 a6 k
  have ih0 := scheme_idxBadRef.mono_l k
  unfold scheme_idxBadRef.f
  repeat' first
      | (with_reducible exact ih0 _ _ _ _ _ _ _ _ _)
      | (with_reducible exact scheme_badRef.mono _ _ _ _ _ _ _ _ _ _)
      | (with_reducible exact LeO.refl _)
      | (with_reducible exact LeO.none _)
      | (with_reducible refine LeO.ite ?_ ?_)
      | (with_reducible refine LeO.bind ?_ (fun _ => ?_))
      | exact ih0 _ _ _ _ _ _ _ _ _
      | exact scheme_badRef.mono _ _ _ _ _ _ _ _ _ _
      | exact LeO.none _
      | refine LeO.ite ?_ ?_
      | refine LeO.bind ?_ (fun _ => ?_)

/-! ### scheme_anyBadRef -/
def scheme_anyBadRef.f (k : Nat) (l0 : List (S75)) (l1 : List (S49)) (a2_0 : ByteArray) (l2_1 : List (S78)) (l2_2 : List (List Int)) (l2_3 : List (S75)) (l2_4 : List Int) : Option (Bool) := (scheme_idxBadRef.f k l0 l1 a2_0 l2_1 l2_2 l2_3 l2_4).bind fun t279 => (some (decide (t279 ≥ 0)))
theorem scheme_anyBadRef.mono : ∀ a0 a1 a2 a3 a4 a5 a6 k, LeO (scheme_anyBadRef.f k a0 a1 a2 a3 a4 a5 a6) (scheme_anyBadRef.f (k + 1) a0 a1 a2 a3 a4 a5 a6) := by
  intro a0 a1 a2 a3 a4 a5 a6 k
  unfold scheme_anyBadRef.f
  repeat' first
      | (with_reducible exact scheme_idxBadRef.mono _ _ _ _ _ _ _ _)
      | (with_reducible exact LeO.refl _)
      | (with_reducible exact LeO.none _)
      | (with_reducible refine LeO.ite ?_ ?_)
      | (with_reducible refine LeO.bind ?_ (fun _ => ?_))
      | exact scheme_idxBadRef.mono _ _ _ _ _ _ _ _
      | exact LeO.none _
      | refine LeO.ite ?_ ?_
      | refine LeO.bind ?_ (fun _ => ?_)

set_option maxRecDepth 100000 in
theorem badRef_walk (k : Nat) (A0_0 : Option Addr) (c0_0 : Nat) (l0_0 : List Int) (a0_1 : Int) (a0_2 : Int) (A1 : Option Addr) (c1 : Nat) (l1 : List S49) (a2_0 : ByteArray) (A2_1 : Option Addr) (c2_1 : Nat) (l2_1 : List S78) (A2_2 : Option Addr) (c2_2 : Nat) (l2_2 : List (List Int)) (A2_3 : Option Addr) (c2_3 : Nat) (l2_3 : List S75) (A2_4 : Option Addr) (c2_4 : Nat) (l2_4 : List Int) (r : Bool) (gb gt : Nat) (w : World)
    (hr0_0 : Kd.C (Kd.int .i64) w A0_0 l0_0.length l0_0) (hc0_0 : l0_0.length ≤ c0_0) (hr1 : Kd.C k49 w A1 l1.length l1) (hc1 : l1.length ≤ c1) (hr2_1 : Kd.C k78 w A2_1 l2_1.length l2_1) (hc2_1 : l2_1.length ≤ c2_1) (hr2_2 : Kd.C (Kd.slice 3 (Kd.int .i64)) w A2_2 l2_2.length l2_2) (hc2_2 : l2_2.length ≤ c2_2) (hr2_3 : Kd.C k75 w A2_3 l2_3.length l2_3) (hc2_3 : l2_3.length ≤ c2_3) (hr2_4 : Kd.C (Kd.int .i64) w A2_4 l2_4.length l2_4) (hc2_4 : l2_4.length ≤ c2_4)
    (hb : w.heap[gb]? = some (.cells #[.slice A1 l1.length c1] 23 (0, 0))) (ht : w.heap[gt]? = some (.cells #[.string a2_0, .slice A2_1 l2_1.length c2_1, .slice A2_2 l2_2.length c2_2, .slice A2_3 l2_3.length c2_3, .slice A2_4 l2_4.length c2_4] 49 (0, 0)))
    (h : scheme_badRef.f k l0_0 a0_1 a0_2 l1 a2_0 l2_1 l2_2 l2_3 l2_4 = some r) :
    Calls Tryd.prog 51 #[.agg #[.slice A0_0 l0_0.length c0_0, .int .i64 a0_1, .int .i64 a0_2], .pointer (some ⟨gb, 0, none⟩), .pointer (some ⟨gt, 0, none⟩)] w fun e w' => e = .returned (.bool r) ∧ Below w.heap.size w w' := by
  unfold scheme_badRef.f at h
  obtain ⟨b, hv, hr⟩ := Option.bind_eq_some_iff.mp h
  obtain rfl := Option.some.inj hr
  have hb0 : ∀ o, (w.alloc o).cell? ⟨gb, 0, none⟩ = some (.slice A1 l1.length c1) := fun o => cell_al o ((blk_cell hb 0).trans rfl)
  have ht0 : ∀ o, (w.alloc o).cell? ⟨gt, 0, none⟩ = some (.string a2_0) := fun o => cell_al o ((blk_cell ht 0).trans rfl)
  have ht1 : ∀ o, (w.alloc o).cell? ⟨gt, 1, none⟩ = some (.slice A2_1 l2_1.length c2_1) := fun o => cell_al o ((blk_cell ht 1).trans rfl)
  have ht2 : ∀ o, (w.alloc o).cell? ⟨gt, 2, none⟩ = some (.slice A2_2 l2_2.length c2_2) := fun o => cell_al o ((blk_cell ht 2).trans rfl)
  have ht3 : ∀ o, (w.alloc o).cell? ⟨gt, 3, none⟩ = some (.slice A2_3 l2_3.length c2_3) := fun o => cell_al o ((blk_cell ht 3).trans rfl)
  have ht4 : ∀ o, (w.alloc o).cell? ⟨gt, 4, none⟩ = some (.slice A2_4 l2_4.length c2_4) := fun o => cell_al o ((blk_cell ht 4).trans rfl)
  have HV : Aside0 (∀ o, Calls Tryd.prog 52 #[.slice A1 l1.length c1, .agg #[.string a2_0, .slice A2_1 l2_1.length c2_1, .slice A2_2 l2_2.length c2_2, .slice A2_3 l2_3.length c2_3, .slice A2_4 l2_4.length c2_4], .agg #[.slice A0_0 l0_0.length c0_0, .int .i64 a0_1, .int .i64 a0_2]] (w.alloc o) fun e w' => e = .returned (.bool b) ∧ Below (w.alloc o).heap.size (w.alloc o) w') := ⟨fun o => by
    have hA : Below w.heap.size w (w.alloc o) := (Below.refl _ _).alloc (Nat.le_refl _) _
    exact scheme_validRef.calls k A1 c1 l1 a2_0 A2_1 c2_1 l2_1 A2_2 c2_2 l2_2 A2_3 c2_3 l2_3 A2_4 c2_4 l2_4 A0_0 c0_0 l0_0 a0_1 a0_2 b _ (Kd.C_below hr1 hA) hc1 (Kd.C_below hr2_1 hA) hc2_1 (Kd.C_below hr2_2 hA) hc2_2 (Kd.C_below hr2_3 hA) hc2_3 (Kd.C_below hr2_4 hA) hc2_4 (Kd.C_below hr0_0 hA) hc0_0 hv⟩
  clear hr0_0 hr1 hr2_1 hr2_2 hr2_3 hr2_4 h hv hr hb ht
  go_enter Tryd.func51, Tryd.ntmps51
  go_wp2_with (go_at_call 52; refine (HV.out _).mono ?_; rintro e w1 ⟨rfl, hb1⟩)
  go_ret
  exact ⟨rfl, below_step ((Below.refl _ _).alloc (Nat.le_refl _) _) hb1⟩

set_option maxRecDepth 100000 in
theorem idxBad_walk (k : Nat) (A0 : Option Addr) (c0 : Nat) (l0 : List S75) (A1 : Option Addr) (c1 : Nat) (l1 : List S49) (a2_0 : ByteArray) (A2_1 : Option Addr) (c2_1 : Nat) (l2_1 : List S78) (A2_2 : Option Addr) (c2_2 : Nat) (l2_2 : List (List Int)) (A2_3 : Option Addr) (c2_3 : Nat) (l2_3 : List S75) (A2_4 : Option Addr) (c2_4 : Nat) (l2_4 : List Int) (r : Int) (gb gt : Nat) (w : World)
    (hr0 : Kd.C k75 w A0 l0.length l0) (hc0 : l0.length ≤ c0) (hr1 : Kd.C k49 w A1 l1.length l1) (hc1 : l1.length ≤ c1) (hr2_1 : Kd.C k78 w A2_1 l2_1.length l2_1) (hc2_1 : l2_1.length ≤ c2_1) (hr2_2 : Kd.C (Kd.slice 3 (Kd.int .i64)) w A2_2 l2_2.length l2_2) (hc2_2 : l2_2.length ≤ c2_2) (hr2_3 : Kd.C k75 w A2_3 l2_3.length l2_3) (hc2_3 : l2_3.length ≤ c2_3) (hr2_4 : Kd.C (Kd.int .i64) w A2_4 l2_4.length l2_4) (hc2_4 : l2_4.length ≤ c2_4)
    (hb : w.heap[gb]? = some (.cells #[.slice A1 l1.length c1] 23 (0, 0))) (ht : w.heap[gt]? = some (.cells #[.string a2_0, .slice A2_1 l2_1.length c2_1, .slice A2_2 l2_2.length c2_2, .slice A2_3 l2_3.length c2_3, .slice A2_4 l2_4.length c2_4] 49 (0, 0)))
    (h : scheme_idxBadRef.f k l0 l1 a2_0 l2_1 l2_2 l2_3 l2_4 = some r) :
    Calls Tryd.prog 73 #[.slice A0 l0.length c0, .func (.func 51) #[] #[.pointer (some ⟨gb, 0, none⟩), .pointer (some ⟨gt, 0, none⟩)]] w fun e w' => e = .returned (.int .i64 r) ∧ Below w.heap.size w w' := by
  have HC := Aside0.mk hr0
  have HH : Aside0 (scheme_idxBadRef.l0 k l0 l1 (l0.length : Int) 0 a2_0 l2_1 l2_2 l2_3 l2_4 = some r) := ⟨h⟩
  have HB0 := Aside0.mk (Below.refl w.heap.size w)
  have HV : Aside0 (∀ k A c l a b r W, Below w.heap.size w W → Kd.C (Kd.int .i64) w A l.length l → l.length ≤ c → scheme_badRef.f k l a b l1 a2_0 l2_1 l2_2 l2_3 l2_4 = some r →
      Calls Tryd.prog 51 #[.agg #[.slice A l.length c, .int .i64 a, .int .i64 b], .pointer (some ⟨gb, 0, none⟩), .pointer (some ⟨gt, 0, none⟩)] W fun e w' => e = .returned (.bool r) ∧ Below W.heap.size W w') := ⟨fun k A c l a b r W hW hl hlc hf =>
    badRef_walk k A c l a b A1 c1 l1 a2_0 A2_1 c2_1 l2_1 A2_2 c2_2 l2_2 A2_3 c2_3 l2_3 A2_4 c2_4 l2_4 r gb gt W (Kd.C_below hl hW) hlc (Kd.C_below hr1 hW) hc1 (Kd.C_below hr2_1 hW) hc2_1 (Kd.C_below hr2_2 hW) hc2_2 (Kd.C_below hr2_3 hW) hc2_3 (Kd.C_below hr2_4 hW) hc2_4 ((hW.block _ (blk_lt hb)).trans hb) ((hW.block _ (blk_lt ht)).trans ht) hf⟩
  clear hr0 hr1 hr2_1 hr2_2 hr2_3 hr2_4 h hb ht
  go_enter Tryd.func73, Tryd.ntmps73
  go_wp2
  go_loopg [8] k (fun gk v8 wx => ∃ (i : Int), v8 = .int .i64 i ∧ Aside0 (Below w.heap.size w wx) ∧ Aside0 (scheme_idxBadRef.l0 gk l0 l1 (l0.length : Int) i a2_0 l2_1 l2_2 l2_3 l2_4 = some r))
  case atStart => exact ⟨0, rfl, HB0, HH⟩
  case round =>
    clear HB0 HH
    obtain ⟨i, rfl, HW, HP⟩ := hrel
    cases gk with
    | zero => exact absurd HP.out (by simp [scheme_idxBadRef.l0])
    | succ gk =>
      have hp := HP.out
      simp only [scheme_idxBadRef.l0] at hp
      by_cases hii : i < (l0.length : Int)
      · rw [if_pos hii] at hp
        by_cases hi0 : 0 ≤ i
        case neg => rw [if_neg hi0] at hp; cases hp
        rw [if_pos hi0, if_pos hii] at hp
        obtain ⟨b, hv, hp2⟩ := Option.bind_eq_some_iff.mp hp
        clear hp HP
        have HP := Aside0.mk hp2
        clear hp2
        obtain ⟨ad, Ac, cc, hA, hx0, hx1, hx2, hcc, hCc⟩ := at_T75 HC.out i hi0 hii
        cases hA
        have hy0 := (HW.out.cell (World.block_lt_of_cell? w _ hx0)).trans hx0
        have hy1 := (HW.out.cell (World.block_lt_of_cell? w _ hx1)).trans hx1
        have hy2 := (HW.out.cell (World.block_lt_of_cell? w _ hx2)).trans hx2
        have HN := Aside0.mk (HV.out gk Ac cc _ _ _ b wr HW.out hCc hcc hv)
        clear hx0 hx1 hx2 hCc hcc hv HV
        generalize rd_T75 l0 i = x at *
        cases b with
        | true =>
          have hp := HP.out
          rw [if_pos rfl] at hp
          obtain rfl := Option.some.inj hp
          clear hp
          go_wp2_with (go_at_call 51; refine HN.out.mono ?_; rintro e w1 ⟨rfl, hb1⟩)
          go_ret
          exact ⟨by first | rfl | (simp; done), below_step HW.out hb1⟩
        | false =>
          have hp := HP.out
          rw [if_neg (by decide)] at hp
          have HP2 := Aside0.mk hp
          clear hp
          go_wp2_with (go_at_call 51; refine HN.out.mono ?_; rintro e w1 ⟨rfl, hb1⟩)
          go_roundg gk
          case measure => omega
          case rel => exact ⟨wrap64 (i + 1), by first | rfl | (simp; done), ⟨below_step HW.out hb1⟩, HP2⟩
      · rw [if_neg hii] at hp
        obtain rfl := Option.some.inj hp
        clear hp
        go_wp2
        go_ret
        exact ⟨by first | rfl | (simp; done), HW.out⟩
end Go.Proofs.YthgfdnffnbclpaaDoor.PAll
