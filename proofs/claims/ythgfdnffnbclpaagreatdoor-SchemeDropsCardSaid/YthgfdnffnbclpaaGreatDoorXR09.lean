import Derived.Test.YthgfdnffnbclpaaGreatDoorXR04
import Derived.Deep.Upon
set_option linter.unusedVariables false
set_option linter.unusedSimpArgs false
namespace Go.Proofs.YthgfdnffnbclpaaGreatDoor.PAll
open Go.RowKit Go.Proofs.YthgfdnffnbclpaaGreatDoorW.PrintWords Go.Proofs.YthgfdnffnbclpaaGreatDoorW.PrintLast Go.Proofs.YthgfdnffnbclpaaGreatDoorW.PrintMore

/-! ### scheme_validRef: function 52 -/
mutual
def scheme_validRef.j0 : Nat → List (S49) → Bool → ByteArray → List (S78) → List (List Int) → List (S75) → List Int → List Int → Int → Int → Option (Bool)
  | 0, _, _, _, _, _, _, _, _, _, _ => none
  | k + 1, x0, x42, x102000, x102001, x102002, x102003, x102004, x103000, x103001, x103002 => if x42 = true then (some false) else (if 0 ≤ x103001 then (if x103001 < (x0.length : Int) then (if 0 ≤ x103002 then (if x103002 < (((rd_T49 x0 x103001).f2).length : Int) then (if ((rd_L6 ((rd_T49 x0 x103001).f2) x103002).length : Int) = (x103000.length : Int) then (scheme_validRef.l0 k x0 (rd_L6 ((rd_T49 x0 x103001).f2) x103002) x103000 (x103000.length : Int) 0 x102000 x102001 x102002 x102003 x102004 x103000 x103001 x103002) else (some false)) else (none)) else (none)) else (none)) else (none))
def scheme_validRef.l0 : Nat → List (S49) → List Int → List Int → Int → Int → ByteArray → List (S78) → List (List Int) → List (S75) → List Int → List Int → Int → Int → Option (Bool)
  | 0, _, _, _, _, _, _, _, _, _, _, _, _, _ => none
  | k + 1, x0, x7, x60, x61, x62, x102000, x102001, x102002, x102003, x102004, x103000, x103001, x103002 => if x62 < x61 then (if 0 ≤ x62 then (if x62 < (x60.length : Int) then (if (rd x60 x62) < 0 then (some false) else (if (rd x60 x62) ≥ (x102001.length : Int) then (some false) else (if 0 ≤ (rd x60 x62) then (if (rd x60 x62) < (x102001.length : Int) then (if 0 ≤ x103001 then (if x103001 < (x0.length : Int) then (if x62 < (x7.length : Int) then (if 0 ≤ (rd x7 x62) then (if (rd x7 x62) < (((rd_T49 x0 x103001).f1).length : Int) then (if ((rd_T78 x102001 (rd x60 x62)).f1) = ((rd_T78 ((rd_T49 x0 x103001).f1) (rd x7 x62)).f1) then (scheme_validRef.l0 k x0 x7 x60 x61 (wrap64 (x62 + 1)) x102000 x102001 x102002 x102003 x102004 x103000 x103001 x103002) else (some false)) else (none)) else (none)) else (none)) else (none)) else (none)) else (none)) else (none)))) else (none)) else (none)) else (some true)
end
def scheme_validRef.f (k : Nat) (l0 : List (S49)) (a1_0 : ByteArray) (l1_1 : List (S78)) (l1_2 : List (List Int)) (l1_3 : List (S75)) (l1_4 : List Int) (l2_0 : List Int) (a2_1 : Int) (a2_2 : Int) : Option (Bool) := if a2_1 < 0 then (scheme_validRef.j0 k l0 true a1_0 l1_1 l1_2 l1_3 l1_4 l2_0 a2_1 a2_2) else (if a2_1 ≥ (l0.length : Int) then (scheme_validRef.j0 k l0 true a1_0 l1_1 l1_2 l1_3 l1_4 l2_0 a2_1 a2_2) else (if a2_2 < 0 then (scheme_validRef.j0 k l0 true a1_0 l1_1 l1_2 l1_3 l1_4 l2_0 a2_1 a2_2) else (if 0 ≤ a2_1 then (if a2_1 < (l0.length : Int) then (if a2_2 ≥ (((rd_T49 l0 a2_1).f2).length : Int) then (scheme_validRef.j0 k l0 true a1_0 l1_1 l1_2 l1_3 l1_4 l2_0 a2_1 a2_2) else ((scheme_distinct_int.f l2_0).bind fun t104 => (scheme_validRef.j0 k l0 (!t104) a1_0 l1_1 l1_2 l1_3 l1_4 l2_0 a2_1 a2_2))) else (none)) else (none))))
theorem scheme_validRef.mono_l : ∀ k, (∀ y0 y1 y2 y3 y4 y5 y6 y7 y8 y9, LeO (scheme_validRef.j0 k y0 y1 y2 y3 y4 y5 y6 y7 y8 y9) (scheme_validRef.j0 (k + 1) y0 y1 y2 y3 y4 y5 y6 y7 y8 y9)) ∧ (∀ y0 y1 y2 y3 y4 y5 y6 y7 y8 y9 y10 y11 y12, LeO (scheme_validRef.l0 k y0 y1 y2 y3 y4 y5 y6 y7 y8 y9 y10 y11 y12) (scheme_validRef.l0 (k + 1) y0 y1 y2 y3 y4 y5 y6 y7 y8 y9 y10 y11 y12))
  | 0 => ⟨fun _ _ _ _ _ _ _ _ _ _ r h => by simp [scheme_validRef.j0] at h, fun _ _ _ _ _ _ _ _ _ _ _ _ _ r h => by simp [scheme_validRef.l0] at h⟩
  | k + 1 => by
    obtain ⟨ih0, ih1⟩ := scheme_validRef.mono_l k
    refine ⟨?_, ?_⟩
    · intro y0 y1 y2 y3 y4 y5 y6 y7 y8 y9
      unfold scheme_validRef.j0
      repeat' first
      | (with_reducible exact ih0 _ _ _ _ _ _ _ _ _ _)
      | (with_reducible exact ih1 _ _ _ _ _ _ _ _ _ _ _ _ _)
      | (with_reducible exact LeO.refl _)
      | (with_reducible exact LeO.none _)
      | (with_reducible refine LeO.ite ?_ ?_)
      | (with_reducible refine LeO.bind ?_ (fun _ => ?_))
      | exact ih0 _ _ _ _ _ _ _ _ _ _
      | exact ih1 _ _ _ _ _ _ _ _ _ _ _ _ _
      | exact LeO.none _
      | refine LeO.ite ?_ ?_
      | refine LeO.bind ?_ (fun _ => ?_)
    · intro y0 y1 y2 y3 y4 y5 y6 y7 y8 y9 y10 y11 y12
      unfold scheme_validRef.l0
      repeat' first
      | (with_reducible exact ih0 _ _ _ _ _ _ _ _ _ _)
      | (with_reducible exact ih1 _ _ _ _ _ _ _ _ _ _ _ _ _)
      | (with_reducible exact LeO.refl _)
      | (with_reducible exact LeO.none _)
      | (with_reducible refine LeO.ite ?_ ?_)
      | (with_reducible refine LeO.bind ?_ (fun _ => ?_))
      | exact ih0 _ _ _ _ _ _ _ _ _ _
      | exact ih1 _ _ _ _ _ _ _ _ _ _ _ _ _
      | exact LeO.none _
      | refine LeO.ite ?_ ?_
      | refine LeO.bind ?_ (fun _ => ?_)
theorem scheme_validRef.mono : ∀ a0 a1 a2 a3 a4 a5 a6 a7 a8 k, LeO (scheme_validRef.f k a0 a1 a2 a3 a4 a5 a6 a7 a8) (scheme_validRef.f (k + 1) a0 a1 a2 a3 a4 a5 a6 a7 a8) := by
  intro a0 a1 a2 a3 a4 a5 a6 a7 a8 k
  obtain ⟨ih0, ih1⟩ := scheme_validRef.mono_l k
  unfold scheme_validRef.f
  repeat' first
      | (with_reducible exact ih0 _ _ _ _ _ _ _ _ _ _)
      | (with_reducible exact ih1 _ _ _ _ _ _ _ _ _ _ _ _ _)
      | (with_reducible exact LeO.refl _)
      | (with_reducible exact LeO.none _)
      | (with_reducible refine LeO.ite ?_ ?_)
      | (with_reducible refine LeO.bind ?_ (fun _ => ?_))
      | exact ih0 _ _ _ _ _ _ _ _ _ _
      | exact ih1 _ _ _ _ _ _ _ _ _ _ _ _ _
      | exact LeO.none _
      | refine LeO.ite ?_ ?_
      | refine LeO.bind ?_ (fun _ => ?_)

set_option maxHeartbeats 4000000 in
set_option maxRecDepth 100000 in
theorem scheme_validRef.calls (k : Nat) (A0 : Option Addr) (c0 : Nat) (l0 : List (S49)) (a1_0 : ByteArray) (A1_1 : Option Addr) (c1_1 : Nat) (l1_1 : List (S78)) (A1_2 : Option Addr) (c1_2 : Nat) (l1_2 : List (List Int)) (A1_3 : Option Addr) (c1_3 : Nat) (l1_3 : List (S75)) (A1_4 : Option Addr) (c1_4 : Nat) (l1_4 : List Int) (A2_0 : Option Addr) (c2_0 : Nat) (l2_0 : List Int) (a2_1 : Int) (a2_2 : Int) (r : Bool) (w : World) (hr0 : Kd.C k49 w A0 l0.length l0) (hc0 : l0.length ≤ c0) (hr1_1 : Kd.C k78 w A1_1 l1_1.length l1_1) (hc1_1 : l1_1.length ≤ c1_1) (hr1_2 : Kd.C (Kd.slice 3 (Kd.int .i64)) w A1_2 l1_2.length l1_2) (hc1_2 : l1_2.length ≤ c1_2) (hr1_3 : Kd.C k75 w A1_3 l1_3.length l1_3) (hc1_3 : l1_3.length ≤ c1_3) (hr1_4 : Kd.C (Kd.int .i64) w A1_4 l1_4.length l1_4) (hc1_4 : l1_4.length ≤ c1_4) (hr2_0 : Kd.C (Kd.int .i64) w A2_0 l2_0.length l2_0) (hc2_0 : l2_0.length ≤ c2_0) (h : scheme_validRef.f k l0 a1_0 l1_1 l1_2 l1_3 l1_4 l2_0 a2_1 a2_2 = some r) :
    Calls Tryz.prog 133 #[.slice A0 l0.length c0, .agg #[.string a1_0, .slice A1_1 l1_1.length c1_1, .slice A1_2 l1_2.length c1_2, .slice A1_3 l1_3.length c1_3, .slice A1_4 l1_4.length c1_4], .agg #[.slice A2_0 l2_0.length c2_0, .int .i64 a2_1, .int .i64 a2_2]] w fun e w' => e = .returned (.bool r) ∧ Below w.heap.size w w' := by
  have HR := Aside0.mk hr0
  have HR1 := Aside0.mk hr1_1
  have HR2 := Aside0.mk hr2_0
  have HH := Aside0.mk h
  clear hr0 hr1_1 hr1_2 hr1_3 hr1_4 hr2_0 h hc1_1 hc1_2 hc1_3 hc1_4
  go_enter Tryz.func133, Tryz.ntmps133
  go_wp2
  obtain ⟨B, hB⟩ : ∃ B, B = w.heap.size := ⟨_, rfl⟩
  obtain ⟨W1, hW1⟩ : ∃ W, W = (w.alloc (Obj.cells #[Value.string a1_0, Value.slice A1_1 l1_1.length c1_1, Value.slice A1_2 l1_2.length c1_2, Value.slice A1_3 l1_3.length c1_3, Value.slice A1_4 l1_4.length c1_4] 72)).alloc (Obj.cells #[Value.slice A2_0 l2_0.length c2_0, Value.int IntKind.i64 a2_1, Value.int IntKind.i64 a2_2] 75) := ⟨_, rfl⟩
  have hb4 : W1.heap[B]? = some (.cells #[Value.string a1_0, Value.slice A1_1 l1_1.length c1_1, Value.slice A1_2 l1_2.length c1_2, Value.slice A1_3 l1_3.length c1_3, Value.slice A1_4 l1_4.length c1_4] 72 (0, 0)) := by
    rw [hW1, hB]; exact blk_alloc (Go.Deep.blk_alloc_new w _) _
  have hb5 : W1.heap[B + 1]? = some (.cells #[Value.slice A2_0 l2_0.length c2_0, Value.int IntKind.i64 a2_1, Value.int IntKind.i64 a2_2] 75 (0, 0)) := by
    rw [hW1, hB]; have := Go.Deep.blk_alloc_new (w.alloc (Obj.cells #[Value.string a1_0, Value.slice A1_1 l1_1.length c1_1, Value.slice A1_2 l1_2.length c1_2, Value.slice A1_3 l1_3.length c1_3, Value.slice A1_4 l1_4.length c1_4] 72)) (Obj.cells #[Value.slice A2_0 l2_0.length c2_0, Value.int IntKind.i64 a2_1, Value.int IntKind.i64 a2_2] 75); simpa using this
  have hBW : Below w.heap.size w W1 := by rw [hW1]; exact ((Below.refl _ _).alloc (Nat.le_refl _) _).alloc (by simp) _
  rw [← hW1, ← hB]
  clear hW1 hB
  have KB : Aside0 (∀ W, Below W1.heap.size W1 W → W.cell? ⟨B + 1, 0, none⟩ = some (Value.slice A2_0 l2_0.length c2_0) ∧ W.cell? ⟨B + 1, 1, none⟩ = some (Value.int IntKind.i64 a2_1) ∧ W.cell? ⟨B + 1, 2, none⟩ = some (Value.int IntKind.i64 a2_2) ∧ W.cell? ⟨B, 1, none⟩ = some (Value.slice A1_1 l1_1.length c1_1) ∧ Below W1.heap.size W1 W) := ⟨fun W hW => by
    have h5 := (hW.block _ (blk_lt hb5)).trans hb5
    have h4 := (hW.block _ (blk_lt hb4)).trans hb4
    exact ⟨(blk_cell h5 0).trans rfl, (blk_cell h5 1).trans rfl, (blk_cell h5 2).trans rfl, (blk_cell h4 1).trans rfl, hW⟩⟩
  have HBW := Aside0.mk hBW
  clear hb4 hb5 hBW
  go_cut [42] (fun v42 wc => ∃ (kq : Nat) (b : Bool), v42 = .bool b ∧ Aside0 (scheme_validRef.j0 kq l0 b a1_0 l1_1 l1_2 l1_3 l1_4 l2_0 a2_1 a2_2 = some r) ∧ Aside0 (Below W1.heap.size W1 wc))
  case first =>
    obtain ⟨c0_, c1_, c2_, c3_, hB0⟩ := KB.out W1 (Below.refl _ _)
    have HB0 := Aside0.mk hB0
    have h := HH.out
    unfold scheme_validRef.f at h
    clear hB0 HH
    by_cases q1 : a2_1 < 0
    · rw [if_pos q1] at h
      have d1 : decide (a2_1 < 0) = true := decide_eq_true q1
      have HR' := Aside0.mk h
      clear h q1
      go_quiet (fail)
      go_wp2
      go_meet
      case rel => exact ⟨_, true, by first | rfl | (simp; done) | (simp [d1]; done), HR', ⟨pw_below_drewN (Below.refl _ _) _⟩⟩
    rw [if_neg q1] at h
    have d1 : decide (a2_1 < 0) = false := decide_eq_false q1
    by_cases q2 : a2_1 ≥ (l0.length : Int)
    · rw [if_pos q2] at h
      have d2 : decide ((l0.length : Int) ≤ a2_1) = true := decide_eq_true q2
      have HR' := Aside0.mk h
      clear h q1 q2
      go_quiet (fail)
      go_wp2
      go_meet
      case rel => exact ⟨_, true, by first | rfl | (simp; done) | (simp [d1]; done), HR', ⟨pw_below_drewN (Below.refl _ _) _⟩⟩
    rw [if_neg q2] at h
    have d2 : decide ((l0.length : Int) ≤ a2_1) = false := decide_eq_false q2
    by_cases q3 : a2_2 < 0
    · rw [if_pos q3] at h
      have d3 : decide (a2_2 < 0) = true := decide_eq_true q3
      have HR' := Aside0.mk h
      clear h q1 q2 q3
      go_quiet (fail)
      go_wp2
      go_meet
      case rel => exact ⟨_, true, by first | rfl | (simp; done) | (simp [d1]; done), HR', ⟨pw_below_drewN (Below.refl _ _) _⟩⟩
    rw [if_neg q3] at h
    have d3 : decide (a2_2 < 0) = false := decide_eq_false q3
    have h1 : 0 ≤ a2_1 := by omega
    have h2 : a2_1 < (l0.length : Int) := by omega
    rw [if_pos h1, if_pos h2] at h
    have hCw := Kd.C_below HR.out (below_step HBW.out (Below.refl _ _))
    obtain ⟨ad, A1, c1, A2, c2, A3, c3, A4, c4, hA, hx0, hx1, hx2, hx3, hx4, g1, h1_, g2, h2_, g3, h3_, g4, h4_⟩ := at_T49 hCw a2_1 h1 h2
    cases hA
    clear hCw hx0 hx1 hx3 hx4 g1 h1_ g2 h2_ g3 h3_ g4 h4_
    generalize rd_T49 l0 a2_1 = x at *
    by_cases q4 : a2_2 ≥ (x.f2.length : Int)
    · rw [if_pos q4] at h
      have d4 : decide ((x.f2.length : Int) ≤ a2_2) = true := decide_eq_true q4
      have HR' := Aside0.mk h
      clear h q1 q2 q3 q4
      go_quiet (fail)
      go_wp2
      go_meet
      case rel => exact ⟨_, true, by first | rfl | (simp; done) | (simp [d1]; done), HR', ⟨pw_below_drewN (Below.refl _ _) _⟩⟩
    rw [if_neg q4] at h
    have d4 : decide ((x.f2.length : Int) ≤ a2_2) = false := decide_eq_false q4
    obtain ⟨b, hd, h⟩ := Option.bind_eq_some_iff.mp h
    have HR' := Aside0.mk h
    have HD : Aside0 (∀ W, Below W1.heap.size W1 W → Calls Tryz.prog 116 #[.slice A2_0 l2_0.length c2_0] W fun e w' => e = .returned (.bool b) ∧ Below W.heap.size W w') := ⟨fun W hW => scheme_distinct_int.calls A2_0 c2_0 l2_0 b W (Kd.C_below HR2.out (below_step HBW.out hW)) hc2_0 hd⟩
    have KS : ∀ W, Below W1.heap.size W1 W → W.cell? ⟨B + 1, 0, none⟩ = some (Value.slice A2_0 l2_0.length c2_0) ∧ W.cell? ⟨B + 1, 1, none⟩ = some (Value.int IntKind.i64 a2_1) ∧ W.cell? ⟨B + 1, 2, none⟩ = some (Value.int IntKind.i64 a2_2) ∧ W.cell? ⟨(ad.add (a2_1.toNat * 5)).block, (ad.add (a2_1.toNat * 5)).off + 2, none⟩ = some (Value.slice A2 x.f2.length c2) ∧ Below W1.heap.size W1 W := fun W hW => by
      obtain ⟨y0, y1, y2, y3, y4⟩ := KB.out W hW
      exact ⟨y0, y1, y2, (hW.cell (World.block_lt_of_cell? W1 _ hx2)).trans hx2, y4⟩
    clear h q1 q2 q3 q4 hd HB0 HR HR1 HR2 hx2 c0_ c1_ c2_ c3_ KB
    go_region_held3 (fun w' => w'.cell? ⟨B + 1, 0, none⟩ = some (Value.slice A2_0 l2_0.length c2_0) ∧ w'.cell? ⟨B + 1, 1, none⟩ = some (Value.int IntKind.i64 a2_1) ∧ w'.cell? ⟨B + 1, 2, none⟩ = some (Value.int IntKind.i64 a2_2) ∧ w'.cell? ⟨(ad.add (a2_1.toNat * 5)).block, (ad.add (a2_1.toNat * 5)).off + 2, none⟩ = some (Value.slice A2 x.f2.length c2) ∧ Below W1.heap.size W1 w') (first | exact KS _ (below_drew1 (Below.refl _ _)) | exact KS _ (below_step (below_drew1 (Below.refl _ _)) hb1)) ((go_at_call 116; refine (HD.out _ (below_drew1 (Below.refl _ _))).mono ?_; rintro e w1 ⟨rfl, hb1⟩))
    all_goals go_wp2
    go_meet
    case rel => exact ⟨_, !b, by first | rfl | (simp; done), HR', ⟨below_step (below_drew1 (Below.refl _ _)) hb1⟩⟩
  case rest =>
    clear HH
    obtain ⟨kq, b, rfl, HA, HB⟩ := hcut
    have KC : Aside0 (∀ W, Below W1.heap.size W1 W → W.cell? ⟨B + 1, 0, none⟩ = some (Value.slice A2_0 l2_0.length c2_0) ∧ W.cell? ⟨B + 1, 1, none⟩ = some (Value.int IntKind.i64 a2_1) ∧ W.cell? ⟨B + 1, 2, none⟩ = some (Value.int IntKind.i64 a2_2) ∧ W.cell? ⟨B, 1, none⟩ = some (Value.slice A1_1 l1_1.length c1_1) ∧ Below W1.heap.size W1 W) := KB
    clear KB
    cases kq with
    | zero => exact absurd HA.out (by simp [scheme_validRef.j0])
    | succ k1 =>
      have h := HA.out
      clear HA
      simp only [scheme_validRef.j0] at h
      cases b with
      | true =>
        rw [if_pos rfl] at h
        obtain rfl := Option.some.inj h
        clear h
        go_wp2
        go_ret
        exact ⟨rfl, below_step HBW.out HB.out⟩
      | false =>
        rw [if_neg (by decide)] at h
        by_cases h1 : 0 ≤ a2_1
        case neg => rw [if_neg h1] at h; cases h
        by_cases h2 : a2_1 < (l0.length : Int)
        case neg => rw [if_pos h1, if_neg h2] at h; cases h
        by_cases h3 : 0 ≤ a2_2
        case neg => rw [if_pos h1, if_pos h2, if_neg h3] at h; cases h
        rw [if_pos h1, if_pos h2, if_pos h3] at h
        obtain ⟨ad, A1, c1, A2, c2, A3, c3, A4, c4, hA, hx0, hx1, hx2, hx3, hx4, g1, h1_, g2, h2_, g3, h3_, g4, h4_⟩ := at_T49 (Kd.C_below HR.out HBW.out) a2_1 h1 h2
        cases hA
        clear hx0 hx3 hx4 g2 g3 h3_ g4 h4_ g1
        generalize hxd : rd_T49 l0 a2_1 = x at *
        have HXD := Aside0.mk hxd
        clear hxd
        by_cases h4 : a2_2 < (x.f2.length : Int)
        case neg => rw [if_neg h4] at h; cases h
        rw [if_pos h4] at h
        obtain ⟨ak, Ak, ck, hAk, hk, hck, hCk⟩ := at_L6 h2_ a2_2 h3 h4
        cases hAk
        clear h2_
        generalize rd_L6 x.f2 a2_2 = key at *
        have HK := Aside0.mk hCk
        have HC := Aside0.mk h1_
        have KX : Aside0 (∀ W, Below W1.heap.size W1 W → W.cell? ⟨(ad.add (a2_1.toNat * 5)).block, (ad.add (a2_1.toNat * 5)).off + 2, none⟩ = some (Value.slice (some ak) x.f2.length c2) ∧ W.cell? (ak.add a2_2.toNat) = some (.slice Ak key.length ck) ∧ W.cell? ⟨(ad.add (a2_1.toNat * 5)).block, (ad.add (a2_1.toNat * 5)).off + 1, none⟩ = some (Value.slice A1 x.f1.length c1)) := ⟨fun W hW =>
          ⟨(hW.cell (World.block_lt_of_cell? W1 _ hx2)).trans hx2, (hW.cell (World.block_lt_of_cell? W1 _ hk)).trans hk, (hW.cell (World.block_lt_of_cell? W1 _ hx1)).trans hx1⟩⟩
        have HP := Aside0.mk h
        obtain ⟨y0, y1, y2, _, _⟩ := KC.out wc HB.out
        obtain ⟨z0, z1, _⟩ := KX.out wc HB.out
        clear h hx1 hx2 hk hCk h1_
        go_wp2
        go_quiet (fail)
        by_cases q : (key.length : Int) = (l2_0.length : Int)
        case neg =>
          have h := HP.out
          rw [if_neg q] at h
          obtain rfl := Option.some.inj h
          have e1 : ((key.length : Int) == (l2_0.length : Int)) = false := beq_eq_false_iff_ne.mpr q
          have e2 : ((key.length : Int) != (l2_0.length : Int)) = true := by rw [bne, e1]; rfl
          clear h q HP
          go_wp2
          go_ret
          exact ⟨rfl, below_step HBW.out (pw_below_drewN HB.out _)⟩
        have h := HP.out
        rw [if_pos q] at h
        have e1 : ((key.length : Int) == (l2_0.length : Int)) = true := beq_iff_eq.mpr q
        have e2 : ((key.length : Int) != (l2_0.length : Int)) = false := by rw [bne, e1]; rfl
        have HP2 := Aside0.mk h
        clear h q HP
        go_wp2
        go_loopg [62] k1 (fun gk v62 wx => ∃ (i : Int), v62 = .int .i64 i ∧ Aside0 (Below W1.heap.size W1 wx) ∧ Aside0 (scheme_validRef.l0 gk l0 key l2_0 (l2_0.length : Int) i a1_0 l1_1 l1_2 l1_3 l1_4 l2_0 a2_1 a2_2 = some r))
        case atStart => exact ⟨0, rfl, ⟨pw_below_drewN HB.out _⟩, HP2⟩
        case round =>
          clear HB HP2 y0 y1 y2 z0 z1 e1 e2
          obtain ⟨i, rfl, HW, HP⟩ := hrel
          cases gk with
          | zero => exact absurd HP.out (by simp [scheme_validRef.l0])
          | succ gk =>
            have hp := HP.out
            simp only [scheme_validRef.l0] at hp
            clear HP
            by_cases hii : i < (l2_0.length : Int)
            case neg =>
              rw [if_neg hii] at hp
              obtain rfl := Option.some.inj hp
              clear hp
              go_wp2
              go_ret
              exact ⟨rfl, below_step HBW.out HW.out⟩
            by_cases hi0 : 0 ≤ i
            case neg => rw [if_pos hii, if_neg hi0] at hp; cases hp
            rw [if_pos hii, if_pos hi0, if_pos hii] at hp
            have hBw := below_step HBW.out HW.out
            obtain ⟨ac, hac, hxc⟩ := Kd.at_int (Kd.C_below HR2.out hBw) i hi0 hii
            cases hac
            generalize rd l2_0 i = cc at *
            obtain ⟨y0, y1, y2, y3, _⟩ := KC.out wr HW.out
            obtain ⟨z0, z1, z2⟩ := KX.out wr HW.out
            have HBw := Aside0.mk hBw
            clear hBw
            by_cases q1 : cc < 0
            · rw [if_pos q1] at hp
              obtain rfl := Option.some.inj hp
              have d1 : decide (cc < 0) = true := decide_eq_true q1
              clear hp q1
              go_wp2
              go_quiet (fail)
              go_wp2
              go_ret
              exact ⟨rfl, pw_below_drewN HBw.out _⟩
            have d1 : decide (cc < 0) = false := decide_eq_false q1
            rw [if_neg q1] at hp
            by_cases q2 : cc ≥ (l1_1.length : Int)
            · rw [if_pos q2] at hp
              obtain rfl := Option.some.inj hp
              have d2 : decide ((l1_1.length : Int) ≤ cc) = true := decide_eq_true q2
              clear hp q1 q2
              go_wp2
              go_quiet (fail)
              go_wp2
              go_ret
              exact ⟨rfl, pw_below_drewN HBw.out _⟩
            have d2 : decide ((l1_1.length : Int) ≤ cc) = false := decide_eq_false q2
            have n1 : 0 ≤ cc := by omega
            have n2 : cc < (l1_1.length : Int) := by omega
            rw [if_neg q2, if_pos n1, if_pos n2, if_pos h1, if_pos h2, HXD.out] at hp
            by_cases n3 : i < (key.length : Int)
            case neg => rw [if_neg n3] at hp; cases hp
            rw [if_pos n3] at hp
            obtain ⟨aq, haq, hxq⟩ := Kd.at_int (Kd.C_below HK.out HW.out) i hi0 n3
            cases haq
            generalize rd key i = kk at *
            by_cases n4 : 0 ≤ kk
            case neg => rw [if_neg n4] at hp; cases hp
            by_cases n5 : kk < (x.f1.length : Int)
            case neg => rw [if_pos n4, if_neg n5] at hp; cases hp
            rw [if_pos n4, if_pos n5] at hp
            obtain ⟨a1, ha1, _, hk1, _⟩ := at_T78 (Kd.C_below HR1.out HBw.out) cc n1 n2
            cases ha1
            obtain ⟨a2, ha2, _, hk2, _⟩ := at_T78 (Kd.C_below HC.out HW.out) kk n4 n5
            cases ha2
            generalize (rd_T78 l1_1 cc).f1 = t1 at *
            generalize (rd_T78 x.f1 kk).f1 = t2 at *
            by_cases q3 : t1 = t2
            · rw [if_pos q3] at hp
              have e1 : (t1 == t2) = true := beq_iff_eq.mpr q3
              have e2 : (t1 != t2) = false := by rw [bne, e1]; rfl
              have HP := Aside0.mk hp
              clear hp q1 q2 q3
              go_wp2
              go_quiet (fail)
              go_wp2
              go_roundg gk
              case measure => omega
              case rel => exact ⟨wrap64 (i + 1), by first | rfl | (simp; done), ⟨pw_below_drewN HW.out _⟩, HP⟩
            · rw [if_neg q3] at hp
              obtain rfl := Option.some.inj hp
              have e1 : (t1 == t2) = false := beq_eq_false_iff_ne.mpr q3
              have e2 : (t1 != t2) = true := by rw [bne, e1]; rfl
              clear hp q1 q2 q3
              go_wp2
              go_quiet (fail)
              go_wp2
              go_ret
              exact ⟨rfl, pw_below_drewN HBw.out _⟩
end Go.Proofs.YthgfdnffnbclpaaGreatDoor.PAll
namespace Go.Proofs.YthgfdnffnbclpaaGreatDoor.PAll
open Go.RowKit Go.Proofs.YthgfdnffnbclpaaGreatDoorW.PrintWords Go.Proofs.YthgfdnffnbclpaaGreatDoorW.PrintLast Go.Proofs.YthgfdnffnbclpaaGreatDoorW.PrintMore

instance : DecidableEq S64 := fun x y => decidable_of_iff (x.f0 = y.f0 ∧ x.f1 = y.f1 ∧ x.f2 = y.f2)
  ⟨fun ⟨a, b, c⟩ => by cases x; cases y; cases a; cases b; cases c; rfl, fun h => by cases h; exact ⟨rfl, rfl, rfl⟩⟩

def tupV (t : List S64) : Value := .agg (tupC t).toArray
theorem cellsV_inj {x y : S64} (h : cellsV x = cellsV y) : x = y := by
  unfold cellsV at h
  cases x; cases y
  simp at h
  obtain ⟨rfl, rfl, rfl⟩ := h
  rfl
theorem tupC_inj : ∀ {s t : List S64}, tupC s = tupC t → s = t
  | [], [], _ => rfl
  | [], y :: t, h => by have := congrArg List.length h; rw [tupC_len, tupC_len] at this; simp at this
  | x :: s, [], h => by have := congrArg List.length h; rw [tupC_len, tupC_len] at this; simp at this
  | x :: s, y :: t, h => by
    have e : ∀ (z : S64) (u : List S64), tupC (z :: u) = cellsV z ++ tupC u := fun z u => by simp [tupC]
    rw [e, e] at h
    obtain ⟨h1, h2⟩ := List.append_inj h rfl
    rw [cellsV_inj h1, tupC_inj h2]
theorem mem_tupV (t : List S64) (S : List (List S64)) : tupV t ∈ S.map tupV ↔ t ∈ S := by
  constructor
  · intro h
    obtain ⟨u, hu, e⟩ := List.mem_map.1 h
    unfold tupV at e
    have : tupC u = tupC t := by simpa using e
    rw [← tupC_inj this]; exact hu
  · exact fun h => List.mem_map_of_mem h

/-- No two rows are alike in a key, nor is one alike to what was seen. -/
def keyRowsP (key : List Int) : List (List S64) → List (List S64) → Option Bool
  | [], _ => some true
  | row :: r, S => (pickP row 0 key tup0).bind fun x => if (x.2 && memP x.1 S) = true then some false else keyRowsP key r (if x.2 = true then x.1 :: S else S)
def keysP (rows : List (List S64)) : List (List Int) → Option Bool
  | [] => some true
  | k :: r => (keyRowsP k rows []).bind fun b => if b = true then keysP rows r else some false

theorem pickP_len : ∀ (cols : List Int) (row : List S64) (i : Nat) (t u : List S64) (b : Bool), pickP row i cols t = some (u, b) → u.length = t.length
  | [], _, _, _, _, _, h => by simp [pickP] at h; rw [h.1]
  | c :: r, row, i, t, u, b, h => by
    rw [pickP] at h
    split at h
    · split at h
      · simp at h; rw [← h.1]; simp
      · rw [pickP_len r row _ _ u b h]; simp
    · cases h
theorem pickP_wf : ∀ (cols : List Int) (row : List S64) (i : Nat) (t u : List S64) (b : Bool), pickP row i cols t = some (u, b) → (∀ x ∈ row, wfV x) → (∀ x ∈ t, wfV x) → ∀ x ∈ u, wfV x
  | [], _, _, _, _, _, h, _, ht => by simp [pickP] at h; rw [← h.1]; exact ht
  | c :: r, row, i, t, u, b, h, hr, ht => by
    rw [pickP] at h
    split at h
    · rename_i hc
      have hm : rd_T64 row c ∈ row := by
        unfold rd_T64
        have : c.toNat < row.length := by omega
        rw [List.getD_eq_getElem?_getD, List.getElem?_eq_getElem this]
        exact List.getElem_mem this
      have hset : ∀ x ∈ t.set i (rd_T64 row c), wfV x := by
        intro x hx
        rcases List.mem_or_eq_of_mem_set hx with h1 | h1
        · exact ht x h1
        · rw [h1]; exact hr _ hm
      split at h
      · simp at h; rw [← h.1]; exact hset
      · exact pickP_wf r row _ _ u b h hr hset
    · cases h
theorem tup0_wf : ∀ x ∈ tup0, wfV x := by
  intro x hx
  unfold tup0 at hx
  rw [List.eq_of_mem_replicate hx]
  exact ⟨by decide, by decide, by decide⟩

def zObj : Obj := .cells #[Value.int IntKind.u8 0, Value.int IntKind.i64 0, Value.string ⟨#[]⟩, Value.int IntKind.u8 0, Value.int IntKind.i64 0, Value.string ⟨#[]⟩, Value.int IntKind.u8 0, Value.int IntKind.i64 0, Value.string ⟨#[]⟩, Value.int IntKind.u8 0, Value.int IntKind.i64 0, Value.string ⟨#[]⟩, Value.int IntKind.u8 0, Value.int IntKind.i64 0, Value.string ⟨#[]⟩, Value.int IntKind.u8 0, Value.int IntKind.i64 0, Value.string ⟨#[]⟩, Value.int IntKind.u8 0, Value.int IntKind.i64 0, Value.string ⟨#[]⟩, Value.int IntKind.u8 0, Value.int IntKind.i64 0, Value.string ⟨#[]⟩] 170
theorem zObj_TB (w1 : World) : TB (w1.alloc zObj) w1.heap.size tup0 := by
  refine ⟨World.rowIs_alloc w1 (tupC tup0).toArray 170 _ (fun j hj => ?_), rfl⟩
  unfold tupF
  have : j < (tupC tup0).length := by simpa using hj
  rw [List.getElem?_toArray, List.getElem?_eq_getElem this]
  rfl
theorem TB.put {w : World} {B : Nat} {t u : List S64} (h : TB w B t) (h8 : u.length = 8) : TB (w.setCells B 0 (tupC u)) B u := by
  refine ⟨(Go.rowIs_setCells (tupC u) 0 w _ h.1).congr (fun j hj => ?_), h8⟩
  have hl := tupC_len u
  rw [if_pos (by omega)]
  rfl
/-- The world with a new block that holds the tuple t. -/
def tupW (w1 : World) (t : List S64) : World := (w1.alloc zObj).setCells w1.heap.size 0 (tupC t)
theorem tupW_TB (w1 : World) (t : List S64) (h8 : t.length = 8) : TB (tupW w1 t) w1.heap.size t := (zObj_TB w1).put h8
theorem tupW_heap (w1 : World) (t : List S64) (b : Nat) (hb : b < w1.heap.size) : (tupW w1 t).heap[b]? = w1.heap[b]? := by
  unfold tupW
  rw [World.heap_setCells_other _ _ _ _ (by simp; omega) (by omega)]
  exact Go.Deep.blk_alloc_lt _ _ _ hb
theorem tupW_below {B0 : Nat} {w0 w1 : World} (t : List S64) (h : Below B0 w0 w1) (hB : B0 ≤ w1.heap.size) : Below B0 w0 (tupW w1 t) :=
  Go.below_setCells hB _ _ _ (h.alloc hB _)
theorem zero93 (w : World) : (zeroValue 173).run Tryz.prog w = .ok (.agg #[]) w := by kernel_rfl

set_option maxHeartbeats 4000000 in
set_option maxRecDepth 100000 in
theorem keysHold_walk (a0 : ByteArray) (A1 : Option Addr) (c1 n1 : Nat) (A2 : Option Addr) (c2 : Nat) (keys : List (List Int)) (A3 : Option Addr) (c3 n3 : Nat) (A4 : Option Addr) (c4 n4 : Nat) (A : Option Addr) (c : Nat) (rows : List (List S64)) (r : Bool) (w : World)
    (hK : Kd.C (Kd.slice 3 (Kd.int .i64)) w A2 keys.length keys) (hk2 : keys.length ≤ c2) (hR : Kd.C (Kd.slice 87 k64) w A rows.length rows) (hrc : rows.length ≤ c) (hwf : ∀ row ∈ rows, ∀ x ∈ row, wfV x) (h : keysP rows keys = some r) :
    Calls Tryz.prog 72 #[.agg #[.string a0, .slice A1 n1 c1, .slice A2 keys.length c2, .slice A3 n3 c3, .slice A4 n4 c4], .slice A rows.length c] w fun e w' => e = .returned (.bool r) ∧ Below w.heap.size w w' := by
  have hmm := @run_makeMap Tryz.prog
  have HK := Aside0.mk hK
  have HRW := Aside0.mk hR
  have HWF := Aside0.mk hwf
  have HH := Aside0.mk h
  clear hK hR hwf h
  go_enter Tryz.func72, Tryz.ntmps72
  go_wp2
  generalize hW1 : (w.alloc _) = W1
  have HBL : Aside0 (Below w.heap.size w W1) := ⟨by rw [← hW1]; exact (Below.refl _ _).alloc (Nat.le_refl _) _⟩
  clear hW1
  go_loopg [17] keys.length (fun gk v17 wx => ∃ (i : Nat), i + gk = keys.length ∧ v17 = .int .i64 i ∧ Aside0 (Below w.heap.size w wx) ∧ Aside0 (keysP rows (keys.drop i) = some r))
  case atStart => exact ⟨0, by omega, rfl, HBL, HH⟩
  case round =>
    clear HBL HH
    obtain ⟨i, hi, rfl, HW, HP⟩ := hrel
    cases gk with
    | zero =>
      have e : keys.drop i = [] := List.drop_eq_nil_of_le (by omega)
      have hp := HP.out
      rw [e] at hp
      simp only [keysP, Option.some.injEq] at hp
      subst hp
      have hii : ¬ (i : Int) < (keys.length : Int) := by omega
      go_wp2
      go_ret
      exact ⟨by first | rfl | (simp; done), HW.out⟩
    | succ g1 =>
      have hlt : i < keys.length := by omega
      have hii : (i : Int) < (keys.length : Int) := by omega
      have hi0 : (0 : Int) ≤ (i : Int) := by omega
      have hdr : keys.drop i = keys[i] :: keys.drop (i + 1) := List.drop_eq_getElem_cons hlt
      have hrd : rd_L6 keys (i : Int) = keys[i] := by unfold rd_L6; simp [List.getD, hlt]
      obtain ⟨ad2, Ak, ck, hA2, hx2, hck, hCk⟩ := at_L6 HK.out (i : Int) hi0 hii
      cases hA2
      rw [hrd] at hx2 hck hCk
      rw [Int.toNat_natCast] at hx2
      have hr2 := (HW.out.cell (World.block_lt_of_cell? w _ hx2)).trans hx2
      have hp := HP.out
      rw [hdr, keysP] at hp
      have HP2 := Aside0.mk hp
      clear hp HP
      have HCK := Aside0.mk hCk
      clear hCk hx2
      generalize keys[i] = key at *
      go_wp2
      obtain ⟨Bm, hBm⟩ : ∃ b, b = wr.heap.size := ⟨_, rfl⟩
      obtain ⟨W2, hW2⟩ : ∃ W, W = wr.alloc (Obj.map #[] 0) := ⟨_, rfl⟩
      have HS0 : Aside0 (SetM Tryz.prog 170 unitElem W2 Bm []) := ⟨by rw [hW2, hBm]; exact SetM.made wr⟩
      have HB0 : Aside0 (Below w.heap.size w W2) := ⟨by rw [hW2]; exact HW.out.alloc HW.out.size _⟩
      have HZ0 : Aside0 (Bm + 1 ≤ W2.heap.size) := ⟨by rw [hW2, hBm]; simp⟩
      have HBW : Aside0 (w.heap.size ≤ Bm) := ⟨by rw [hBm]; exact HW.out.size⟩
      rw [← hW2, ← hBm]
      clear hBm hW2
      go_loopg [24] rows.length (fun gj v24 wx => ∃ (j : Nat) (S : List (List S64)), j + gj = rows.length ∧ v24 = .int .i64 j ∧ Aside0 (S.length ≤ j) ∧ Aside0 (SetM Tryz.prog 170 unitElem wx Bm (S.map tupV)) ∧ Aside0 (Below w.heap.size w wx) ∧ Aside0 (Bm + 1 ≤ wx.heap.size) ∧
        Aside0 ((keyRowsP key (rows.drop j) S).bind (fun b => if b = true then keysP rows (keys.drop (i + 1)) else some false) = some r))
      case atStart => exact ⟨0, [], by omega, rfl, ⟨Nat.le_refl _⟩, HS0, HB0, HZ0, HP2⟩
      case round =>
        clear HS0 HB0 HZ0 HP2 HW
        obtain ⟨j, S, hj, rfl, HSL, HM, HW, HSZ, HP⟩ := hrel
        cases gk with
        | zero =>
          have e : rows.drop j = [] := List.drop_eq_nil_of_le (by omega)
          have hp := HP.out
          rw [e] at hp
          simp only [keyRowsP, Option.bind_some, if_true] at hp
          have hjj : ¬ (j : Int) < (rows.length : Int) := by omega
          go_wp2
          go_roundg g1
          case measure => omega
          case rel => exact ⟨i + 1, by omega, by first | rfl | (simp; done) | (have := HK.out.2.1; simp; unfold wrap64; omega), HW, ⟨hp⟩⟩
        | succ g2 =>
          have hjlt : j < rows.length := by omega
          have hjj : (j : Int) < (rows.length : Int) := by omega
          have hj0 : (0 : Int) ≤ (j : Int) := by omega
          have hdrj : rows.drop j = rows[j] :: rows.drop (j + 1) := List.drop_eq_getElem_cons hjlt
          have hrdj : rd_L12 rows (j : Int) = rows[j] := by unfold rd_L12; simp [List.getD, hjlt]
          obtain ⟨adr, Ar, cr, hAr, hxr, hcr, hCr⟩ := at_L12 HRW.out (j : Int) hj0 hjj
          cases hAr
          rw [hrdj] at hxr hcr hCr
          rw [Int.toNat_natCast] at hxr
          have hr3 := (HW.out.cell (World.block_lt_of_cell? w _ hxr)).trans hxr
          have hwr := HWF.out rows[j] (List.getElem_mem hjlt)
          have hp := HP.out
          rw [hdrj, keyRowsP] at hp
          generalize rows[j] = row at *
          cases hpk : pickP row 0 key tup0 with
          | none => rw [hpk] at hp; simp at hp
          | some x =>
            obtain ⟨t, full⟩ := x
            rw [hpk] at hp
            simp only [Option.bind_some] at hp
            have h8 : t.length = 8 := by rw [pickP_len _ _ _ _ _ _ hpk]; rfl
            have hwt := pickP_wf _ _ _ _ _ _ hpk hwr tup0_wf
            obtain ⟨kl, hkey⟩ := key_tup t h8 hwt
            have hkey' : keyOf Tryz.prog 170 (tupV t) = some kl := hkey
            have HPK := Aside0.mk (pick_walk Ar cr row Ak ck key t full wr (Kd.C_below hCr HW.out) hcr (Kd.C_below HCK.out HW.out) hck hpk)
            have HCR := Aside0.mk hCr
            clear hCr hxr hwr hwt hpk
            have hz : (Tryz.prog.info? 170).map (·.size) = some (tupC t).length := by rw [tupC_len, h8]; kernel_rfl
            have hza : (Tryz.prog.info? 170).map (·.size) = some (tupC t).toArray.size := by rw [List.size_toArray]; exact hz
            have hone : (tupC t).toArray.all (·.oneCell') = true := tupC_one t
            have hth : ∀ w1 : World, (w1.alloc zObj).there w1.heap.size 0 (tupC t).toArray.size := fun w1 => (zObj_TB w1).there 0 _ (by rw [List.size_toArray, tupC_len, h8]; omega)
            have hBm : Bm < wr.heap.size := by have := HSZ.out; omega
            have FW : ∀ w1, Below wr.heap.size wr w1 → TB (tupW w1 t) w1.heap.size t ∧ SetM Tryz.prog 170 unitElem (tupW w1 t) Bm (S.map tupV) ∧ Below w.heap.size w (tupW w1 t) ∧ Bm + 1 ≤ (tupW w1 t).heap.size := by
              intro w1 hb1
              have hs1 := hb1.size
              have hbw : Below w.heap.size w w1 := below_step HW.out hb1
              refine ⟨tupW_TB w1 t h8, HM.out.kept ?_, tupW_below t hbw hbw.size, ?_⟩
              · rw [tupW_heap w1 t Bm (by omega)]
                exact hb1.block Bm hBm
              · have := (tupW_TB w1 t h8).1.lt
                omega
            have FL : ∀ W5, SetM Tryz.prog 170 unitElem W5 Bm (S.map tupV) → (Instr.lookup 168 (.map (some Bm)) (tupV t) true).run Tryz.prog W5 = .ok (.tuple #[.agg #[], .bool (memP t S)]) W5 := fun W5 h5 =>
              h5.look_unit key90 Tryz.underlying168 (zero93 _) hkey' _ (by rw [mem_tupV]; exact memP_iff t S)
            have FS : ∀ W6, SetM Tryz.prog 170 unitElem W6 Bm (S.map tupV) → Below w.heap.size w W6 → Bm + 1 ≤ W6.heap.size → ∃ w7, (Instr.mapUpdate 168 (.map (some Bm)) (tupV t) (.agg #[])).run Tryz.prog W6 = .ok () w7 ∧ SetM Tryz.prog 170 unitElem w7 Bm ((t :: S).map tupV) ∧ Below w.heap.size w w7 ∧ Bm + 1 ≤ w7.heap.size := by
              intro W6 h6 hb6 hs6
              obtain ⟨w7, hrun, hset, hturn⟩ := h6.store key90 Tryz.underlying168 (by rw [List.length_map]; have := HSL.out; have := HRW.out.2.1; show S.length < 9223372036854775807; omega) (val := .agg #[]) hkey' unitElem_mk
              have hg := hturn.grown
              exact ⟨w7, hrun, hset, hb6.grown hg hb6.size (fun k hk => by cases hk; exact HBW.out), by have := hg.size; omega⟩
            cases full with
            | true =>
              cases hm : memP t S with
              | true =>
                rw [hm] at hp FL
                simp only [Bool.and_self, if_true, Option.bind_some] at hp
                rw [if_neg (by decide)] at hp
                obtain rfl := Option.some.inj hp
                go_wp2_with (first
                  | (go_at_call 125; refine HPK.out.mono ?_; rintro e w1 ⟨rfl, hb1⟩; obtain ⟨F1, F2, F3, F4⟩ := FW w1 hb1; have hth1 := hth w1)
                  | (refine wpList_store_mid rfl 170 (.tmp 10) _ rfl w1.heap.size 0 (tupC t).toArray rfl rfl hth1 hza hone ?_; change wpList _ _ _ _ _ (tupW w1 t); have F0 := FL _ F2; clear hth1 hb1; generalize tupW w1 t = W5 at *; generalize w1.heap.size = Bt at *)
                  | (refine wpList_load_mid rfl 170 (.tmp 10) rfl Bt 0 rfl (tupC t) _ F1.range Tryz.underlying170 rfl hz ?_)
                  | (at_lookup; refine wpList_look_run _ rfl _ _ _ _ rfl rfl rfl F0 ?_))
                go_ret
                exact ⟨by first | rfl | (simp; done), F3.alloc F3.size _⟩
              | false =>
                rw [hm] at hp FL
                simp only [Bool.and_false, if_true] at hp
                rw [if_neg (by decide)] at hp
                have HP3 := Aside0.mk hp
                clear hp
                go_wp2_with (first
                  | (go_at_call 125; refine HPK.out.mono ?_; rintro e w1 ⟨rfl, hb1⟩; obtain ⟨F1, F2, F3, F4⟩ := FW w1 hb1; have hth1 := hth w1)
                  | (refine wpList_store_mid rfl 170 (.tmp 10) _ rfl w1.heap.size 0 (tupC t).toArray rfl rfl hth1 hza hone ?_; change wpList _ _ _ _ _ (tupW w1 t); have F0 := FL _ F2; clear hth1 hb1; generalize tupW w1 t = W5 at *; generalize w1.heap.size = Bt at *)
                  | (refine wpList_load_mid rfl 170 (.tmp 10) rfl Bt 0 rfl (tupC t) _ F1.range Tryz.underlying170 rfl hz ?_)
                  | (at_lookup; refine wpList_look_run _ rfl _ _ _ _ rfl rfl rfl F0 ?_)
                  | (refine wpList_load_mid rfl 170 (.tmp 10) rfl Bt 0 rfl (tupC t) _ (TB.range ⟨F1.1.alloc _, F1.2⟩) Tryz.underlying170 rfl hz ?_)
                  | (at_mapUpdate; obtain ⟨w7, hrun, G2, G3, G4⟩ := FS _ (F2.kept (Go.Deep.blk_alloc_lt _ _ _ (by omega))) (F3.alloc F3.size _) (by simp; omega); refine wpList_store_run _ rfl _ _ _ _ rfl rfl rfl rfl hrun ?_))
                go_roundg g2
                case measure => omega
                case rel => exact ⟨j + 1, t :: S, by omega, by first | rfl | (simp; done) | (have := HRW.out.2.1; simp; unfold wrap64; omega), ⟨by rw [List.length_cons]; have := HSL.out; omega⟩, ⟨G2⟩, ⟨G3⟩, ⟨G4⟩, HP3⟩
            | false =>
              cases hm : memP t S with
              | true =>
                rw [hm] at FL
                simp only [Bool.false_and] at hp
                rw [if_neg (by decide), if_neg (by decide)] at hp
                have HP3 := Aside0.mk hp
                clear hp
                go_wp2_with (first
                  | (go_at_call 125; refine HPK.out.mono ?_; rintro e w1 ⟨rfl, hb1⟩; obtain ⟨F1, F2, F3, F4⟩ := FW w1 hb1; have hth1 := hth w1)
                  | (refine wpList_store_mid rfl 170 (.tmp 10) _ rfl w1.heap.size 0 (tupC t).toArray rfl rfl hth1 hza hone ?_; change wpList _ _ _ _ _ (tupW w1 t); have F0 := FL _ F2; clear hth1 hb1; generalize tupW w1 t = W5 at *; generalize w1.heap.size = Bt at *)
                  | (refine wpList_load_mid rfl 170 (.tmp 10) rfl Bt 0 rfl (tupC t) _ F1.range Tryz.underlying170 rfl hz ?_)
                  | (at_lookup; refine wpList_look_run _ rfl _ _ _ _ rfl rfl rfl F0 ?_))
                go_roundg g2
                case measure => omega
                case rel => exact ⟨j + 1, S, by omega, by first | rfl | (simp; done) | (have := HRW.out.2.1; simp; unfold wrap64; omega), ⟨by have := HSL.out; omega⟩, ⟨F2.kept (Go.Deep.blk_alloc_lt _ _ _ (by omega))⟩, ⟨F3.alloc F3.size _⟩, ⟨by simp; omega⟩, HP3⟩
              | false =>
                rw [hm] at FL
                simp only [Bool.false_and] at hp
                rw [if_neg (by decide), if_neg (by decide)] at hp
                have HP3 := Aside0.mk hp
                clear hp
                go_wp2_with (first
                  | (go_at_call 125; refine HPK.out.mono ?_; rintro e w1 ⟨rfl, hb1⟩; obtain ⟨F1, F2, F3, F4⟩ := FW w1 hb1; have hth1 := hth w1)
                  | (refine wpList_store_mid rfl 170 (.tmp 10) _ rfl w1.heap.size 0 (tupC t).toArray rfl rfl hth1 hza hone ?_; change wpList _ _ _ _ _ (tupW w1 t); have F0 := FL _ F2; clear hth1 hb1; generalize tupW w1 t = W5 at *; generalize w1.heap.size = Bt at *)
                  | (refine wpList_load_mid rfl 170 (.tmp 10) rfl Bt 0 rfl (tupC t) _ F1.range Tryz.underlying170 rfl hz ?_)
                  | (at_lookup; refine wpList_look_run _ rfl _ _ _ _ rfl rfl rfl F0 ?_))
                go_roundg g2
                case measure => omega
                case rel => exact ⟨j + 1, S, by omega, by first | rfl | (simp; done) | (have := HRW.out.2.1; simp; unfold wrap64; omega), ⟨by have := HSL.out; omega⟩, ⟨F2.kept (Go.Deep.blk_alloc_lt _ _ _ (by omega))⟩, ⟨F3.alloc F3.size _⟩, ⟨by simp; omega⟩, HP3⟩
end Go.Proofs.YthgfdnffnbclpaaGreatDoor.PAll
