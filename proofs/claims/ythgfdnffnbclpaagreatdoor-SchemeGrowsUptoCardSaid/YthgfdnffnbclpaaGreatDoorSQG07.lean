import Derived.Test.YthgfdnffnbclpaaGreatDoorSQG05
import Derived.Test.YthgfdnffnbclpaaGreatDoorSQG06
import Derived.Test.YthgfdnffnbclpaaGreatDoorSQG03
set_option linter.unusedVariables false
set_option linter.unusedSimpArgs false
namespace Go.Proofs.YthgfdnffnbclpaaGreatDoor.PAll
open Go.RowKit Go.Proofs.YthgfdnffnbclpaaGreatDoorW.PrintWords Go.Proofs.YthgfdnffnbclpaaGreatDoorW.PrintLast Go.Proofs.YthgfdnffnbclpaaGreatDoorW.PrintMore
mutual
def scheme_validRef.j0 : Nat → List (S49) → Bool → ByteArray → List (S78) → List (List Int) → List (S75) → List Int → List Int → Int → Int → Option (Bool)
 | 0, _, _, _, _, _, _, _, _, _, _ => none
 | k + 1, x0, x42, x102000, x102001, x102002, x102003, x102004, x103000, x103001, x103002 => if x42 = true then (some false) else (if 0 ≤ x103001 then (if x103001 < (x0.length : Int) then (if 0 ≤ x103002 then (if x103002 < (((rd_T49 x0 x103001).f2).length : Int) then (if ((rd_L6 ((rd_T49 x0 x103001).f2) x103002).length : Int) = (x103000.length : Int) then (scheme_validRef.l0 k x0 (rd_L6 ((rd_T49 x0 x103001).f2) x103002) x103000 (x103000.length : Int) 0 x102000 x102001 x102002 x102003 x102004 x103000 x103001 x103002) else (some false)) else (none)) else (none)) else (none)) else (none))
def scheme_validRef.l0 : Nat → List (S49) → List Int → List Int → Int → Int → ByteArray → List (S78) → List (List Int) → List (S75) → List Int → List Int → Int → Int → Option (Bool)
 | 0, _, _, _, _, _, _, _, _, _, _, _, _, _ => none
 | k + 1, x0, x7, x60, x61, x62, x102000, x102001, x102002, x102003, x102004, x103000, x103001, x103002 => if x62 < x61 then (if 0 ≤ x62 then (if x62 < (x60.length : Int) then (if (rd x60 x62) < 0 then (some false) else (if (rd x60 x62) ≥ (x102001.length : Int) then (some false) else (if 0 ≤ (rd x60 x62) then (if (rd x60 x62) < (x102001.length : Int) then (if 0 ≤ x103001 then (if x103001 < (x0.length : Int) then (if x62 < (x7.length : Int) then (if 0 ≤ (rd x7 x62) then (if (rd x7 x62) < (((rd_T49 x0 x103001).f1).length : Int) then (if ((rd_T78 x102001 (rd x60 x62)).f1) = ((rd_T78 ((rd_T49 x0 x103001).f1) (rd x7 x62)).f1) then (scheme_validRef.l0 k x0 x7 x60 x61 (wrap64 (x62 + 1)) x102000 x102001 x102002 x102003 x102004 x103000 x103001 x103002) else (some false)) else (none)) else (none)) else (none)) else (none)) else (none)) else (none)) else (none)))) else (none)) else (none)) else (some true)
end
def scheme_validRef.f (k : Nat) (l0 : List (S49)) (a1_0 : ByteArray) (l1_1 : List (S78)) (l1_2 : List (List Int)) (l1_3 : List (S75)) (l1_4 : List Int) (l2_0 : List Int) (a2_1 : Int) (a2_2 : Int) : Option (Bool) := if a2_1 < 0 then (scheme_validRef.j0 k l0 true a1_0 l1_1 l1_2 l1_3 l1_4 l2_0 a2_1 a2_2) else (if a2_1 ≥ (l0.length : Int) then (scheme_validRef.j0 k l0 true a1_0 l1_1 l1_2 l1_3 l1_4 l2_0 a2_1 a2_2) else (if a2_2 < 0 then (scheme_validRef.j0 k l0 true a1_0 l1_1 l1_2 l1_3 l1_4 l2_0 a2_1 a2_2) else (if 0 ≤ a2_1 then (if a2_1 < (l0.length : Int) then (if a2_2 ≥ (((rd_T49 l0 a2_1).f2).length : Int) then (scheme_validRef.j0 k l0 true a1_0 l1_1 l1_2 l1_3 l1_4 l2_0 a2_1 a2_2) else ((scheme_distinct_int.f l2_0).bind fun t104 => (scheme_validRef.j0 k l0 (!t104) a1_0 l1_1 l1_2 l1_3 l1_4 l2_0 a2_1 a2_2))) else (none)) else (none))))
set_option maxHeartbeats 4000000 in
set_option maxRecDepth 100000 in
theorem scheme_validRef.calls (k : Nat) (A0 : Option Addr) (c0 : Nat) (l0 : List (S49)) (a1_0 : ByteArray) (A1_1 : Option Addr) (c1_1 : Nat) (l1_1 : List (S78)) (A1_2 : Option Addr) (c1_2 : Nat) (l1_2 : List (List Int)) (A1_3 : Option Addr) (c1_3 : Nat) (l1_3 : List (S75)) (A1_4 : Option Addr) (c1_4 : Nat) (l1_4 : List Int) (A2_0 : Option Addr) (c2_0 : Nat) (l2_0 : List Int) (a2_1 : Int) (a2_2 : Int) (r : Bool) (w : World) (hr0 : Kd.C k49 w A0 l0.length l0) (hc0 : l0.length ≤ c0) (hr1_1 : Kd.C k78 w A1_1 l1_1.length l1_1) (hc1_1 : l1_1.length ≤ c1_1) (hr1_2 : Kd.C (Kd.slice 3 (Kd.int .i64)) w A1_2 l1_2.length l1_2) (hc1_2 : l1_2.length ≤ c1_2) (hr1_3 : Kd.C k75 w A1_3 l1_3.length l1_3) (hc1_3 : l1_3.length ≤ c1_3) (hr1_4 : Kd.C (Kd.int .i64) w A1_4 l1_4.length l1_4) (hc1_4 : l1_4.length ≤ c1_4) (hr2_0 : Kd.C (Kd.int .i64) w A2_0 l2_0.length l2_0) (hc2_0 : l2_0.length ≤ c2_0) (h : scheme_validRef.f k l0 a1_0 l1_1 l1_2 l1_3 l1_4 l2_0 a2_1 a2_2 = some r) :
  Calls Tryz.prog 133 #[.slice A0 l0.length c0, .agg #[.string a1_0, .slice A1_1 l1_1.length c1_1, .slice A1_2 l1_2.length c1_2, .slice A1_3 l1_3.length c1_3, .slice A1_4 l1_4.length c1_4], .agg #[.slice A2_0 l2_0.length c2_0, .int .i64 a2_1, .int .i64 a2_2]] w fun e w' => e = .returned (.bool r) ∧ Below w.heap.size w w' := by
 have HR := Aside0.mk hr0
 have HR1 := Aside0.mk hr1_1
 have HR2 := Aside0.mk hr2_0
 have HH := Aside0.mk h
 clear hr0 hr1_1 hr1_2 hr1_3 hr1_4 hr2_0 h hc1_1 hc1_2 hc1_3 hc1_4
 go_enter Tryz.func133, Tryz.ntmps133
 go_wp2
 obtain ⟨B, hB⟩ : ∃ B, B = w.heap.size := ⟨_, rfl⟩
 obtain ⟨W1, hW1⟩ : ∃ W, W = (w.alloc (Obj.cells #[Value.string a1_0, Value.slice A1_1 l1_1.length c1_1, Value.slice A1_2 l1_2.length c1_2, Value.slice A1_3 l1_3.length c1_3, Value.slice A1_4 l1_4.length c1_4] 72)).alloc (Obj.cells #[Value.slice A2_0 l2_0.length c2_0, Value.int IntKind.i64 a2_1, Value.int IntKind.i64 a2_2] 75) := ⟨_, rfl⟩
 have hb4 : W1.heap[B]? = some (.cells #[Value.string a1_0, Value.slice A1_1 l1_1.length c1_1, Value.slice A1_2 l1_2.length c1_2, Value.slice A1_3 l1_3.length c1_3, Value.slice A1_4 l1_4.length c1_4] 72 (0, 0)) := by
  rw [hW1, hB]; exact blk_alloc (Go.Deep.blk_alloc_new w _) _
 have hb5 : W1.heap[B + 1]? = some (.cells #[Value.slice A2_0 l2_0.length c2_0, Value.int IntKind.i64 a2_1, Value.int IntKind.i64 a2_2] 75 (0, 0)) := by
  rw [hW1, hB]; have := Go.Deep.blk_alloc_new (w.alloc (Obj.cells #[Value.string a1_0, Value.slice A1_1 l1_1.length c1_1, Value.slice A1_2 l1_2.length c1_2, Value.slice A1_3 l1_3.length c1_3, Value.slice A1_4 l1_4.length c1_4] 72)) (Obj.cells #[Value.slice A2_0 l2_0.length c2_0, Value.int IntKind.i64 a2_1, Value.int IntKind.i64 a2_2] 75); simpa using this
 have hBW : Below w.heap.size w W1 := by rw [hW1]; exact ((Below.refl _ _).alloc (Nat.le_refl _) _).alloc (by simp) _
 rw [← hW1, ← hB]
 clear hW1 hB
 have KB : Aside0 (∀ W, Below W1.heap.size W1 W → W.cell? ⟨B + 1, 0, none⟩ = some (Value.slice A2_0 l2_0.length c2_0) ∧ W.cell? ⟨B + 1, 1, none⟩ = some (Value.int IntKind.i64 a2_1) ∧ W.cell? ⟨B + 1, 2, none⟩ = some (Value.int IntKind.i64 a2_2) ∧ W.cell? ⟨B, 1, none⟩ = some (Value.slice A1_1 l1_1.length c1_1) ∧ Below W1.heap.size W1 W) := ⟨fun W hW => by
  have h5 := (hW.block _ (blk_lt hb5)).trans hb5
  have h4 := (hW.block _ (blk_lt hb4)).trans hb4
  exact ⟨(blk_cell h5 0).trans rfl, (blk_cell h5 1).trans rfl, (blk_cell h5 2).trans rfl, (blk_cell h4 1).trans rfl, hW⟩⟩
 have HBW := Aside0.mk hBW
 clear hb4 hb5 hBW
 go_cut [42] (fun v42 wc => ∃ (kq : Nat) (b : Bool), v42 = .bool b ∧ Aside0 (scheme_validRef.j0 kq l0 b a1_0 l1_1 l1_2 l1_3 l1_4 l2_0 a2_1 a2_2 = some r) ∧ Aside0 (Below W1.heap.size W1 wc))
 case first =>
  obtain ⟨c0_, c1_, c2_, c3_, hB0⟩ := KB.out W1 (Below.refl _ _)
  have HB0 := Aside0.mk hB0
  have h := HH.out
  unfold scheme_validRef.f at h
  clear hB0 HH
  by_cases q1 : a2_1 < 0
  ·rw [if_pos q1] at h
   have d1 : decide (a2_1 < 0) = true := decide_eq_true q1
   have HR' := Aside0.mk h
   clear h q1
   go_quiet (fail)
   go_wp2
   go_meet
   case rel => exact ⟨_, true, by first | rfl | (simp; done) | (simp [d1]; done), HR', ⟨pw_below_drewN (Below.refl _ _) _⟩⟩
  rw [if_neg q1] at h
  have d1 : decide (a2_1 < 0) = false := decide_eq_false q1
  by_cases q2 : a2_1 ≥ (l0.length : Int)
  ·rw [if_pos q2] at h
   have d2 : decide ((l0.length : Int) ≤ a2_1) = true := decide_eq_true q2
   have HR' := Aside0.mk h
   clear h q1 q2
   go_quiet (fail)
   go_wp2
   go_meet
   case rel => exact ⟨_, true, by first | rfl | (simp; done) | (simp [d1]; done), HR', ⟨pw_below_drewN (Below.refl _ _) _⟩⟩
  rw [if_neg q2] at h
  have d2 : decide ((l0.length : Int) ≤ a2_1) = false := decide_eq_false q2
  by_cases q3 : a2_2 < 0
  ·rw [if_pos q3] at h
   have d3 : decide (a2_2 < 0) = true := decide_eq_true q3
   have HR' := Aside0.mk h
   clear h q1 q2 q3
   go_quiet (fail)
   go_wp2
   go_meet
   case rel => exact ⟨_, true, by first | rfl | (simp; done) | (simp [d1]; done), HR', ⟨pw_below_drewN (Below.refl _ _) _⟩⟩
  rw [if_neg q3] at h
  have d3 : decide (a2_2 < 0) = false := decide_eq_false q3
  have h1 : 0 ≤ a2_1 := by omega
  have h2 : a2_1 < (l0.length : Int) := by omega
  rw [if_pos h1, if_pos h2] at h
  have hCw := Kd.C_below HR.out (below_step HBW.out (Below.refl _ _))
  obtain ⟨ad, A1, c1, A2, c2, A3, c3, A4, c4, hA, hx0, hx1, hx2, hx3, hx4, g1, h1_, g2, h2_, g3, h3_, g4, h4_⟩ := at_T49 hCw a2_1 h1 h2
  cases hA
  clear hCw hx0 hx1 hx3 hx4 g1 h1_ g2 h2_ g3 h3_ g4 h4_
  generalize rd_T49 l0 a2_1 = x at *
  by_cases q4 : a2_2 ≥ (x.f2.length : Int)
  ·rw [if_pos q4] at h
   have d4 : decide ((x.f2.length : Int) ≤ a2_2) = true := decide_eq_true q4
   have HR' := Aside0.mk h
   clear h q1 q2 q3 q4
   go_quiet (fail)
   go_wp2
   go_meet
   case rel => exact ⟨_, true, by first | rfl | (simp; done) | (simp [d1]; done), HR', ⟨pw_below_drewN (Below.refl _ _) _⟩⟩
  rw [if_neg q4] at h
  have d4 : decide ((x.f2.length : Int) ≤ a2_2) = false := decide_eq_false q4
  obtain ⟨b, hd, h⟩ := Option.bind_eq_some_iff.mp h
  have HR' := Aside0.mk h
  have HD : Aside0 (∀ W, Below W1.heap.size W1 W → Calls Tryz.prog 116 #[.slice A2_0 l2_0.length c2_0] W fun e w' => e = .returned (.bool b) ∧ Below W.heap.size W w') := ⟨fun W hW => scheme_distinct_int.calls A2_0 c2_0 l2_0 b W (Kd.C_below HR2.out (below_step HBW.out hW)) hc2_0 hd⟩
  have KS : ∀ W, Below W1.heap.size W1 W → W.cell? ⟨B + 1, 0, none⟩ = some (Value.slice A2_0 l2_0.length c2_0) ∧ W.cell? ⟨B + 1, 1, none⟩ = some (Value.int IntKind.i64 a2_1) ∧ W.cell? ⟨B + 1, 2, none⟩ = some (Value.int IntKind.i64 a2_2) ∧ W.cell? ⟨(ad.add (a2_1.toNat * 5)).block, (ad.add (a2_1.toNat * 5)).off + 2, none⟩ = some (Value.slice A2 x.f2.length c2) ∧ Below W1.heap.size W1 W := fun W hW => by
   obtain ⟨y0, y1, y2, y3, y4⟩ := KB.out W hW
   exact ⟨y0, y1, y2, (hW.cell (World.block_lt_of_cell? W1 _ hx2)).trans hx2, y4⟩
  clear h q1 q2 q3 q4 hd HB0 HR HR1 HR2 hx2 c0_ c1_ c2_ c3_ KB
  go_region_held3 (fun w' => w'.cell? ⟨B + 1, 0, none⟩ = some (Value.slice A2_0 l2_0.length c2_0) ∧ w'.cell? ⟨B + 1, 1, none⟩ = some (Value.int IntKind.i64 a2_1) ∧ w'.cell? ⟨B + 1, 2, none⟩ = some (Value.int IntKind.i64 a2_2) ∧ w'.cell? ⟨(ad.add (a2_1.toNat * 5)).block, (ad.add (a2_1.toNat * 5)).off + 2, none⟩ = some (Value.slice A2 x.f2.length c2) ∧ Below W1.heap.size W1 w') (first | exact KS _ (below_drew1 (Below.refl _ _)) | exact KS _ (below_step (below_drew1 (Below.refl _ _)) hb1)) ((go_at_call 116; refine (HD.out _ (below_drew1 (Below.refl _ _))).mono ?_; rintro e w1 ⟨rfl, hb1⟩))
  all_goals go_wp2
  go_meet
  case rel => exact ⟨_, !b, by first | rfl | (simp; done), HR', ⟨below_step (below_drew1 (Below.refl _ _)) hb1⟩⟩
 case rest =>
  clear HH
  obtain ⟨kq, b, rfl, HA, HB⟩ := hcut
  have KC : Aside0 (∀ W, Below W1.heap.size W1 W → W.cell? ⟨B + 1, 0, none⟩ = some (Value.slice A2_0 l2_0.length c2_0) ∧ W.cell? ⟨B + 1, 1, none⟩ = some (Value.int IntKind.i64 a2_1) ∧ W.cell? ⟨B + 1, 2, none⟩ = some (Value.int IntKind.i64 a2_2) ∧ W.cell? ⟨B, 1, none⟩ = some (Value.slice A1_1 l1_1.length c1_1) ∧ Below W1.heap.size W1 W) := KB
  clear KB
  cases kq with
  | zero => exact absurd HA.out (by simp [scheme_validRef.j0])
  | succ k1 =>
   have h := HA.out
   clear HA
   simp only [scheme_validRef.j0] at h
   cases b with
   | true =>
    rw [if_pos rfl] at h
    obtain rfl := Option.some.inj h
    clear h
    go_wp2
    go_ret
    exact ⟨rfl, below_step HBW.out HB.out⟩
   | false =>
    rw [if_neg (by decide)] at h
    by_cases h1 : 0 ≤ a2_1
    case neg => rw [if_neg h1] at h; cases h
    by_cases h2 : a2_1 < (l0.length : Int)
    case neg => rw [if_pos h1, if_neg h2] at h; cases h
    by_cases h3 : 0 ≤ a2_2
    case neg => rw [if_pos h1, if_pos h2, if_neg h3] at h; cases h
    rw [if_pos h1, if_pos h2, if_pos h3] at h
    obtain ⟨ad, A1, c1, A2, c2, A3, c3, A4, c4, hA, hx0, hx1, hx2, hx3, hx4, g1, h1_, g2, h2_, g3, h3_, g4, h4_⟩ := at_T49 (Kd.C_below HR.out HBW.out) a2_1 h1 h2
    cases hA
    clear hx0 hx3 hx4 g2 g3 h3_ g4 h4_ g1
    generalize hxd : rd_T49 l0 a2_1 = x at *
    have HXD := Aside0.mk hxd
    clear hxd
    by_cases h4 : a2_2 < (x.f2.length : Int)
    case neg => rw [if_neg h4] at h; cases h
    rw [if_pos h4] at h
    obtain ⟨ak, Ak, ck, hAk, hk, hck, hCk⟩ := at_L6 h2_ a2_2 h3 h4
    cases hAk
    clear h2_
    generalize rd_L6 x.f2 a2_2 = key at *
    have HK := Aside0.mk hCk
    have HC := Aside0.mk h1_
    have KX : Aside0 (∀ W, Below W1.heap.size W1 W → W.cell? ⟨(ad.add (a2_1.toNat * 5)).block, (ad.add (a2_1.toNat * 5)).off + 2, none⟩ = some (Value.slice (some ak) x.f2.length c2) ∧ W.cell? (ak.add a2_2.toNat) = some (.slice Ak key.length ck) ∧ W.cell? ⟨(ad.add (a2_1.toNat * 5)).block, (ad.add (a2_1.toNat * 5)).off + 1, none⟩ = some (Value.slice A1 x.f1.length c1)) := ⟨fun W hW =>
     ⟨(hW.cell (World.block_lt_of_cell? W1 _ hx2)).trans hx2, (hW.cell (World.block_lt_of_cell? W1 _ hk)).trans hk, (hW.cell (World.block_lt_of_cell? W1 _ hx1)).trans hx1⟩⟩
    have HP := Aside0.mk h
    obtain ⟨y0, y1, y2, _, _⟩ := KC.out wc HB.out
    obtain ⟨z0, z1, _⟩ := KX.out wc HB.out
    clear h hx1 hx2 hk hCk h1_
    go_wp2
    go_quiet (fail)
    by_cases q : (key.length : Int) = (l2_0.length : Int)
    case neg =>
     have h := HP.out
     rw [if_neg q] at h
     obtain rfl := Option.some.inj h
     have e1 : ((key.length : Int) == (l2_0.length : Int)) = false := beq_eq_false_iff_ne.mpr q
     have e2 : ((key.length : Int) != (l2_0.length : Int)) = true := by rw [bne, e1]; rfl
     clear h q HP
     go_wp2
     go_ret
     exact ⟨rfl, below_step HBW.out (pw_below_drewN HB.out _)⟩
    have h := HP.out
    rw [if_pos q] at h
    have e1 : ((key.length : Int) == (l2_0.length : Int)) = true := beq_iff_eq.mpr q
    have e2 : ((key.length : Int) != (l2_0.length : Int)) = false := by rw [bne, e1]; rfl
    have HP2 := Aside0.mk h
    clear h q HP
    go_wp2
    go_loopg [62] k1 (fun gk v62 wx => ∃ (i : Int), v62 = .int .i64 i ∧ Aside0 (Below W1.heap.size W1 wx) ∧ Aside0 (scheme_validRef.l0 gk l0 key l2_0 (l2_0.length : Int) i a1_0 l1_1 l1_2 l1_3 l1_4 l2_0 a2_1 a2_2 = some r))
    case atStart => exact ⟨0, rfl, ⟨pw_below_drewN HB.out _⟩, HP2⟩
    case round =>
     clear HB HP2 y0 y1 y2 z0 z1 e1 e2
     obtain ⟨i, rfl, HW, HP⟩ := hrel
     cases gk with
     | zero => exact absurd HP.out (by simp [scheme_validRef.l0])
     | succ gk =>
      have hp := HP.out
      simp only [scheme_validRef.l0] at hp
      clear HP
      by_cases hii : i < (l2_0.length : Int)
      case neg =>
       rw [if_neg hii] at hp
       obtain rfl := Option.some.inj hp
       clear hp
       go_wp2
       go_ret
       exact ⟨rfl, below_step HBW.out HW.out⟩
      by_cases hi0 : 0 ≤ i
      case neg => rw [if_pos hii, if_neg hi0] at hp; cases hp
      rw [if_pos hii, if_pos hi0, if_pos hii] at hp
      have hBw := below_step HBW.out HW.out
      obtain ⟨ac, hac, hxc⟩ := Kd.at_int (Kd.C_below HR2.out hBw) i hi0 hii
      cases hac
      generalize rd l2_0 i = cc at *
      obtain ⟨y0, y1, y2, y3, _⟩ := KC.out wr HW.out
      obtain ⟨z0, z1, z2⟩ := KX.out wr HW.out
      have HBw := Aside0.mk hBw
      clear hBw
      by_cases q1 : cc < 0
      ·rw [if_pos q1] at hp
       obtain rfl := Option.some.inj hp
       have d1 : decide (cc < 0) = true := decide_eq_true q1
       clear hp q1
       go_wp2
       go_quiet (fail)
       go_wp2
       go_ret
       exact ⟨rfl, pw_below_drewN HBw.out _⟩
      have d1 : decide (cc < 0) = false := decide_eq_false q1
      rw [if_neg q1] at hp
      by_cases q2 : cc ≥ (l1_1.length : Int)
      ·rw [if_pos q2] at hp
       obtain rfl := Option.some.inj hp
       have d2 : decide ((l1_1.length : Int) ≤ cc) = true := decide_eq_true q2
       clear hp q1 q2
       go_wp2
       go_quiet (fail)
       go_wp2
       go_ret
       exact ⟨rfl, pw_below_drewN HBw.out _⟩
      have d2 : decide ((l1_1.length : Int) ≤ cc) = false := decide_eq_false q2
      have n1 : 0 ≤ cc := by omega
      have n2 : cc < (l1_1.length : Int) := by omega
      rw [if_neg q2, if_pos n1, if_pos n2, if_pos h1, if_pos h2, HXD.out] at hp
      by_cases n3 : i < (key.length : Int)
      case neg => rw [if_neg n3] at hp; cases hp
      rw [if_pos n3] at hp
      obtain ⟨aq, haq, hxq⟩ := Kd.at_int (Kd.C_below HK.out HW.out) i hi0 n3
      cases haq
      generalize rd key i = kk at *
      by_cases n4 : 0 ≤ kk
      case neg => rw [if_neg n4] at hp; cases hp
      by_cases n5 : kk < (x.f1.length : Int)
      case neg => rw [if_pos n4, if_neg n5] at hp; cases hp
      rw [if_pos n4, if_pos n5] at hp
      obtain ⟨a1, ha1, _, hk1, _⟩ := at_T78 (Kd.C_below HR1.out HBw.out) cc n1 n2
      cases ha1
      obtain ⟨a2, ha2, _, hk2, _⟩ := at_T78 (Kd.C_below HC.out HW.out) kk n4 n5
      cases ha2
      generalize (rd_T78 l1_1 cc).f1 = t1 at *
      generalize (rd_T78 x.f1 kk).f1 = t2 at *
      by_cases q3 : t1 = t2
      ·rw [if_pos q3] at hp
       have e1 : (t1 == t2) = true := beq_iff_eq.mpr q3
       have e2 : (t1 != t2) = false := by rw [bne, e1]; rfl
       have HP := Aside0.mk hp
       clear hp q1 q2 q3
       go_wp2
       go_quiet (fail)
       go_wp2
       go_roundg gk
       case measure => omega
       case rel => exact ⟨wrap64 (i + 1), by first | rfl | (simp; done), ⟨pw_below_drewN HW.out _⟩, HP⟩
      ·rw [if_neg q3] at hp
       obtain rfl := Option.some.inj hp
       have e1 : (t1 == t2) = false := beq_eq_false_iff_ne.mpr q3
       have e2 : (t1 != t2) = true := by rw [bne, e1]; rfl
       clear hp q1 q2 q3
       go_wp2
       go_quiet (fail)
       go_wp2
       go_ret
       exact ⟨rfl, pw_below_drewN HBw.out _⟩
def smallRows (l : List (List S64)) : Prop := l.length ≤ 2000000 ∧ ∀ row ∈ l, row.length ≤ 2000000
theorem take_snoc {α : Type} {l : List α} {i : Nat} (h : i < l.length) : l.take (i + 1) = l.take i ++ [l[i]] := by rw [List.take_add_one, List.getElem?_eq_getElem h]; rfl
set_option maxRecDepth 100000 in
theorem copyRows_walk (A0 : Option Addr) (c0 : Nat) (l : List (List S64)) (w : World) (hr0 : Kd.C (Kd.slice 87 k64) w A0 l.length l) (hc0 : l.length ≤ c0) (hs : smallRows l) :
  Calls Tryz.prog 70 #[.slice A0 l.length c0, .func (.func 71) #[] #[]] w fun e w' => ∃ v0_ : Value, e = .returned (v0_) ∧ Kd.S (Kd.slice 87 k64) 89 w' w.heap.size (fun _ => True) v0_ l ∧ Below w.heap.size w w' := by
 have HR := Aside0.mk hr0
 have HS := Aside0.mk hs
 have HB0 := Aside0.mk (Below.refl w.heap.size w)
 have hlen := hs.1
 clear hr0 hs
 obtain ⟨i0, hi0, hz0, hz1, hz2⟩ := info_parts (P := Tryz.prog) (e := 89) (z := .slice none 0 0) (size := 1) (bytes := 24) (by kernel_rfl)
 obtain ⟨W1, hmk0, hown0, hgr0⟩ := run_make_own w w.heap.size 41 89 i0 _ 1 Tryz.underlying41 hi0 hz0 hz1 .i64 .i64 l.length (by rw [hz2]; omega) (by unfold maxLen; omega) (Nat.le_refl _)
 have HB1 : Aside0 (Below w.heap.size w W1) := ⟨HB0.out.grown hgr0 (Nat.le_refl _) (fun j hj => by cases hj)⟩
 have HO1 : Aside0 (Kd.S (Kd.slice 87 k64) 89 W1 w.heap.size (fun _ => True) (.slice (some ⟨w.heap.size, 0, none⟩) 0 l.length) []) := ⟨⟨fun _ => 0, fun _ _ => trivial, [], hown0, Reps.none _ _⟩⟩
 clear hown0 hgr0 hi0 hz0 hz1 hz2 HB0
 go_enter Tryz.func70, Tryz.ntmps70
 go_wp2
 go_loopg [5, 13] l.length (fun gk v5 v13 wx => ∃ (i : Nat), i + gk = l.length ∧ v13 = .int .i64 i ∧ Aside0 (Kd.S (Kd.slice 87 k64) 89 wx w.heap.size (fun _ => True) v5 (l.take i)) ∧ Aside0 (Below w.heap.size w wx))
 case atStart => exact ⟨0, by omega, rfl, by simpa using HO1, HB1⟩
 case round =>
  clear HO1 HB1
  obtain ⟨i, hi, rfl, HO, HB⟩ := hrel
  cases gk with
  | zero =>
   have e : l.take i = l := List.take_of_length_le (by omega)
   have hii : ¬ (i : Int) < (l.length : Int) := by omega
   rw [e] at HO
   go_wp2
   go_ret
   exact ⟨_, rfl, HO.out, HB.out⟩
  | succ gk =>
   have hlt : i < l.length := by omega
   have hii : (i : Int) < (l.length : Int) := by omega
   have hi0 : (0 : Int) ≤ (i : Int) := by omega
   have hrd : rd_L12 l (i : Int) = l[i] := by unfold rd_L12; simp [List.getD, hlt]
   obtain ⟨ad, Ar, cr, hA, hx, hcr, hCr⟩ := at_L12 HR.out (i : Int) hi0 hii
   cases hA
   rw [hrd] at hx hcr hCr
   rw [Int.toNat_natCast] at hx
   replace hx := (HB.out.cell (World.block_lt_of_cell? w _ hx)).trans hx
   have hrow := HS.out.2 l[i] (List.getElem_mem hlt)
   have HT := Aside0.mk (take_snoc hlt)
   generalize l[i] = row at *
   have HN := Aside0.mk (api_Value.calls Ar cr row row wr (Kd.C_below hCr HB.out) hcr (by unfold api_Value.f; rw [if_pos (by omega)]))
   have hlen2 : (l.take i).length ≤ 2000000 := by rw [List.length_take]; omega
   clear hCr hrow hrd
   generalize l.take i = pre at *
   go_wp2_with (first
    | (go_at_call 71; refine HN.out.mono ?_; rintro e w1 ⟨v, rfl, hv, hb1⟩; obtain ⟨Av, cv, ev⟩ := Kd.R_slice hv; subst ev; have HV := Aside0.mk hv; have HO2 := Aside0.mk (Kd.S_old HO.out hb1); have HB2 := Aside0.mk (below_step HB.out hb1); clear hv hb1)
    | ((with_reducible refine gate_builtin (b := .append) (xs := #[.tmp 17, .tmp 21]) rfl ?_); at_builtin; refine Kd.S_append (Kd.slice 87 k64) (w0 := w) w.heap.size rfl (.tmp 17) (.tmp 21) 41 89 (.slice none 0 0) 24 rfl Tryz.underlying41 info89 rfl (by decide) (by omega) u5 pre row [.slice Av row.length cv] (fun _ => True) (fun k_ => wr.heap.size ≤ k_) rfl rfl ?aP ?aQ (fun _ _ => trivial) ?aO HB2.out HB2.out.size (by omega) ?_; (case aP => exact Kd.M_row (Kd.R_lower (Kd.R_mono (Kd.R_bound HV.out) (fun _ hk => hk.2.1)) HB.out.size)); (case aQ => exact fun k hk => ⟨trivial, fun he => by have := Kd.S_lt HO.out k he.symm; omega⟩); (case aO => exact Kd.S_mono HO2.out (fun k hk => ⟨trivial, by have := hk.2; omega⟩)); intro v1 w2 hv1 hb2 _ _))
   go_roundg gk
   case measure => omega
   case rel => exact ⟨i + 1, by omega, by first | rfl | (simp; done) | (simp; unfold wrap64; omega), ⟨by rw [HT.out]; exact hv1⟩, ⟨hb2⟩⟩
set_option maxRecDepth 100000 in
theorem copyOne_walk (A0 : Option Addr) (c0 : Nat) (l : List (List S64)) (w : World) (hr0 : Kd.C (Kd.slice 87 k64) w A0 l.length l) (hc0 : l.length ≤ c0) (hs : smallRows l) :
  Calls Tryz.prog 89 #[.slice A0 l.length c0] w fun e w' => ∃ v0_ : Value, e = .returned (v0_) ∧ Kd.S (Kd.slice 87 k64) 89 w' w.heap.size (fun _ => True) v0_ l ∧ Below w.heap.size w w' := by
 have HN := Aside0.mk (copyRows_walk A0 c0 l w hr0 hc0 hs)
 clear hr0 hs
 go_enter Tryz.func89, Tryz.ntmps89
 go_wp2_with (go_at_call 70; refine HN.out.mono ?_; rintro e w1 ⟨v, rfl, hv, hb1⟩)
 go_ret
 exact ⟨_, rfl, hv, hb1⟩
def smallData (d : List (List (List S64))) : Prop := d.length ≤ 2000000 ∧ ∀ rows ∈ d, smallRows rows
set_option maxRecDepth 100000 in
theorem mapRows_walk (A0 : Option Addr) (c0 : Nat) (l : List (List (List S64))) (w : World) (hr0 : Kd.C (Kd.slice 89 (Kd.slice 87 k64)) w A0 l.length l) (hc0 : l.length ≤ c0) (hs : smallData l) :
  Calls Tryz.prog 88 #[.slice A0 l.length c0, .func (.func 89) #[] #[]] w fun e w' => ∃ v0_ : Value, e = .returned (v0_) ∧ Kd.S (Kd.slice 89 (Kd.slice 87 k64)) 41 w' w.heap.size (fun _ => True) v0_ l ∧ Below w.heap.size w w' := by
 have HR := Aside0.mk hr0
 have HS := Aside0.mk hs
 have HB0 := Aside0.mk (Below.refl w.heap.size w)
 have hlen := hs.1
 clear hr0 hs
 obtain ⟨i0, hi0, hz0, hz1, hz2⟩ := info_parts (P := Tryz.prog) (e := 41) (z := .slice none 0 0) (size := 1) (bytes := 24) (by kernel_rfl)
 obtain ⟨W1, hmk0, hown0, hgr0⟩ := run_make_own w w.heap.size 24 41 i0 _ 1 Tryz.underlying24 hi0 hz0 hz1 .i64 .i64 l.length (by rw [hz2]; omega) (by unfold maxLen; omega) (Nat.le_refl _)
 have HB1 : Aside0 (Below w.heap.size w W1) := ⟨HB0.out.grown hgr0 (Nat.le_refl _) (fun j hj => by cases hj)⟩
 have HO1 : Aside0 (Kd.S (Kd.slice 89 (Kd.slice 87 k64)) 41 W1 w.heap.size (fun _ => True) (.slice (some ⟨w.heap.size, 0, none⟩) 0 l.length) []) := ⟨⟨fun _ => 0, fun _ _ => trivial, [], hown0, Reps.none _ _⟩⟩
 clear hown0 hgr0 hi0 hz0 hz1 hz2 HB0
 go_enter Tryz.func88, Tryz.ntmps88
 go_wp2
 go_loopg [5, 13] l.length (fun gk v5 v13 wx => ∃ (i : Nat), i + gk = l.length ∧ v13 = .int .i64 i ∧ Aside0 (Kd.S (Kd.slice 89 (Kd.slice 87 k64)) 41 wx w.heap.size (fun _ => True) v5 (l.take i)) ∧ Aside0 (Below w.heap.size w wx))
 case atStart => exact ⟨0, by omega, rfl, by simpa using HO1, HB1⟩
 case round =>
  clear HO1 HB1
  obtain ⟨i, hi, rfl, HO, HB⟩ := hrel
  cases gk with
  | zero =>
   have e : l.take i = l := List.take_of_length_le (by omega)
   have hii : ¬ (i : Int) < (l.length : Int) := by omega
   rw [e] at HO
   go_wp2
   go_ret
   exact ⟨_, rfl, HO.out, HB.out⟩
  | succ gk =>
   have hlt : i < l.length := by omega
   have hii : (i : Int) < (l.length : Int) := by omega
   have hi0 : (0 : Int) ≤ (i : Int) := by omega
   have hrd : rd_L13 l (i : Int) = l[i] := by unfold rd_L13; simp [List.getD, hlt]
   obtain ⟨ad, Ar, cr, hA, hx, hcr, hCr⟩ := at_L13 HR.out (i : Int) hi0 hii
   cases hA
   rw [hrd] at hx hcr hCr
   rw [Int.toNat_natCast] at hx
   replace hx := (HB.out.cell (World.block_lt_of_cell? w _ hx)).trans hx
   have hrow := HS.out.2 l[i] (List.getElem_mem hlt)
   have HT := Aside0.mk (take_snoc hlt)
   generalize l[i] = row at *
   have HN := Aside0.mk (copyOne_walk Ar cr row wr (Kd.C_below hCr HB.out) hcr hrow)
   have hlen2 : (l.take i).length ≤ 2000000 := by rw [List.length_take]; omega
   clear hCr hrow hrd
   generalize l.take i = pre at *
   go_wp2_with (first
    | (go_at_call 89; refine HN.out.mono ?_; rintro e w1 ⟨v, rfl, hv, hb1⟩; obtain ⟨Av, cv, ev⟩ := Kd.S_slice hv; subst ev; have HV := Aside0.mk hv; have HO2 := Aside0.mk (Kd.S_old HO.out hb1); have HB2 := Aside0.mk (below_step HB.out hb1); clear hv hb1)
    | ((with_reducible refine gate_builtin (b := .append) (xs := #[.tmp 17, .tmp 21]) rfl ?_); at_builtin; refine Kd.S_append (Kd.slice 89 (Kd.slice 87 k64)) (w0 := w) w.heap.size rfl (.tmp 17) (.tmp 21) 24 41 (.slice none 0 0) 24 rfl Tryz.underlying24 info41 rfl (by decide) (by omega) u5 pre row [.slice Av row.length cv] (fun _ => True) (fun k_ => wr.heap.size ≤ k_) rfl rfl ?aP ?aQ (fun _ _ => trivial) ?aO HB2.out HB2.out.size (by omega) ?_; (case aP => exact Kd.M_row (Kd.R_lower (Kd.R_mono (Kd.R_bound (Kd.S_R HV.out)) (fun _ hk => hk.2.1)) HB.out.size)); (case aQ => exact fun k hk => ⟨trivial, fun he => by have := Kd.S_lt HO.out k he.symm; omega⟩); (case aO => exact Kd.S_mono HO2.out (fun k hk => ⟨trivial, by have := hk.2; omega⟩)); intro v1 w2 hv1 hb2 _ _))
   go_roundg gk
   case measure => omega
   case rel => exact ⟨i + 1, by omega, by first | rfl | (simp; done) | (simp; unfold wrap64; omega), ⟨by rw [HT.out]; exact hv1⟩, ⟨hb2⟩⟩
set_option maxRecDepth 100000 in
theorem copiedData_walk (A0 : Option Addr) (c0 : Nat) (l : List (List (List S64))) (w : World) (hr0 : Kd.C (Kd.slice 89 (Kd.slice 87 k64)) w A0 l.length l) (hc0 : l.length ≤ c0) (hs : smallData l) :
  Calls Tryz.prog 37 #[.slice A0 l.length c0] w fun e w' => ∃ v0_ : Value, e = .returned (v0_) ∧ Kd.S (Kd.slice 89 (Kd.slice 87 k64)) 41 w' w.heap.size (fun _ => True) v0_ l ∧ Below w.heap.size w w' := by
 have HN := Aside0.mk (mapRows_walk A0 c0 l w hr0 hc0 hs)
 clear hr0 hs
 go_enter Tryz.func37, Tryz.ntmps37
 go_wp2_with (go_at_call 88; refine HN.out.mono ?_; rintro e w1 ⟨v, rfl, hv, hb1⟩)
 go_ret
 exact ⟨_, rfl, hv, hb1⟩
def smallKeys (l : List (List Int)) : Prop := l.length ≤ 2000000 ∧ ∀ row ∈ l, row.length ≤ 2000000
set_option maxRecDepth 100000 in
theorem copyKeys_walk (A0 : Option Addr) (c0 : Nat) (l : List (List Int)) (w : World) (hr0 : Kd.C (Kd.slice 3 (Kd.int .i64)) w A0 l.length l) (hc0 : l.length ≤ c0) (hs : smallKeys l) :
  Calls Tryz.prog 85 #[.slice A0 l.length c0, .func (.func 86) #[] #[]] w fun e w' => ∃ v0_ : Value, e = .returned (v0_) ∧ Kd.S (Kd.slice 3 (Kd.int .i64)) 70 w' w.heap.size (fun _ => True) v0_ l ∧ Below w.heap.size w w' := by
 have HR := Aside0.mk hr0
 have HS := Aside0.mk hs
 have HB0 := Aside0.mk (Below.refl w.heap.size w)
 have hlen := hs.1
 clear hr0 hs
 obtain ⟨i0, hi0, hz0, hz1, hz2⟩ := info_parts (P := Tryz.prog) (e := 70) (z := .slice none 0 0) (size := 1) (bytes := 24) (by kernel_rfl)
 obtain ⟨W1, hmk0, hown0, hgr0⟩ := run_make_own w w.heap.size 68 70 i0 _ 1 Tryz.underlying68 hi0 hz0 hz1 .i64 .i64 l.length (by rw [hz2]; omega) (by unfold maxLen; omega) (Nat.le_refl _)
 have HB1 : Aside0 (Below w.heap.size w W1) := ⟨HB0.out.grown hgr0 (Nat.le_refl _) (fun j hj => by cases hj)⟩
 have HO1 : Aside0 (Kd.S (Kd.slice 3 (Kd.int .i64)) 70 W1 w.heap.size (fun _ => True) (.slice (some ⟨w.heap.size, 0, none⟩) 0 l.length) []) := ⟨⟨fun _ => 0, fun _ _ => trivial, [], hown0, Reps.none _ _⟩⟩
 clear hown0 hgr0 hi0 hz0 hz1 hz2 HB0
 go_enter Tryz.func85, Tryz.ntmps85
 go_wp2
 go_loopg [5, 13] l.length (fun gk v5 v13 wx => ∃ (i : Nat), i + gk = l.length ∧ v13 = .int .i64 i ∧ Aside0 (Kd.S (Kd.slice 3 (Kd.int .i64)) 70 wx w.heap.size (fun _ => True) v5 (l.take i)) ∧ Aside0 (Below w.heap.size w wx))
 case atStart => exact ⟨0, by omega, rfl, by simpa using HO1, HB1⟩
 case round =>
  clear HO1 HB1
  obtain ⟨i, hi, rfl, HO, HB⟩ := hrel
  cases gk with
  | zero =>
   have e : l.take i = l := List.take_of_length_le (by omega)
   have hii : ¬ (i : Int) < (l.length : Int) := by omega
   rw [e] at HO
   go_wp2
   go_ret
   exact ⟨_, rfl, HO.out, HB.out⟩
  | succ gk =>
   have hlt : i < l.length := by omega
   have hii : (i : Int) < (l.length : Int) := by omega
   have hi0 : (0 : Int) ≤ (i : Int) := by omega
   have hrd : rd_L6 l (i : Int) = l[i] := by unfold rd_L6; simp [List.getD, hlt]
   obtain ⟨ad, Ar, cr, hA, hx, hcr, hCr⟩ := at_L6 HR.out (i : Int) hi0 hii
   cases hA
   rw [hrd] at hx hcr hCr
   rw [Int.toNat_natCast] at hx
   replace hx := (HB.out.cell (World.block_lt_of_cell? w _ hx)).trans hx
   have hrow := HS.out.2 l[i] (List.getElem_mem hlt)
   have HT := Aside0.mk (take_snoc hlt)
   generalize l[i] = row at *
   have HN := Aside0.mk (clInts_walk Ar cr row wr (Kd.C_below hCr HB.out) hcr (by omega))
   have hlen2 : (l.take i).length ≤ 2000000 := by rw [List.length_take]; omega
   clear hCr hrow hrd
   generalize l.take i = pre at *
   go_wp2_with (first
    | (go_at_call 86; refine HN.out.mono ?_; rintro e w1 ⟨v, rfl, hv, hb1⟩; obtain ⟨Av, cv, ev⟩ := Kd.R_slice hv; subst ev; have HV := Aside0.mk hv; have HO2 := Aside0.mk (Kd.S_old HO.out hb1); have HB2 := Aside0.mk (below_step HB.out hb1); clear hv hb1)
    | ((with_reducible refine gate_builtin (b := .append) (xs := #[.tmp 17, .tmp 21]) rfl ?_); at_builtin; refine Kd.S_append (Kd.slice 3 (Kd.int .i64)) (w0 := w) w.heap.size rfl (.tmp 17) (.tmp 21) 68 70 (.slice none 0 0) 24 rfl Tryz.underlying68 info70 rfl (by decide) (by omega) u5 pre row [.slice Av row.length cv] (fun _ => True) (fun k_ => wr.heap.size ≤ k_) rfl rfl ?aP ?aQ (fun _ _ => trivial) ?aO HB2.out HB2.out.size (by omega) ?_; (case aP => exact Kd.M_row (Kd.R_lower (Kd.R_mono (Kd.R_bound HV.out) (fun _ hk => hk.2.1)) HB.out.size)); (case aQ => exact fun k hk => ⟨trivial, fun he => by have := Kd.S_lt HO.out k he.symm; omega⟩); (case aO => exact Kd.S_mono HO2.out (fun k hk => ⟨trivial, by have := hk.2; omega⟩)); intro v1 w2 hv1 hb2 _ _))
   go_roundg gk
   case measure => omega
   case rel => exact ⟨i + 1, by omega, by first | rfl | (simp; done) | (simp; unfold wrap64; omega), ⟨by rw [HT.out]; exact hv1⟩, ⟨hb2⟩⟩
theorem raw75 {w : World} {A : Option Addr} {n : Nat} {xs : List S75} (h : Kd.C k75 w A n xs) : ∃ L : List (List Value), L.length = n ∧ Kd.C (Kd.raw 3) w A n L ∧
  ∀ (i : Nat) (x : S75), xs[i]? = some x → ∃ A' c', L[i]? = some [Value.slice A' x.f0.length c', Value.int .i64 x.f1, Value.int .i64 x.f2] ∧ x.f0.length ≤ c' ∧ Kd.C (Kd.int .i64) w A' x.f0.length x.f0 := by
 obtain ⟨h1, h2, h3⟩ := h
 have key : ∀ i, i < n → ∃ (c : List Value) (x : S75), xs[i]? = some x ∧ k75.K w x c ∧ ∃ ad, A = some ad ∧ ∀ j u, c[j]? = some u → w.cell? (ad.add (i * 3 + j)) = some u := fun i hi => by
  obtain ⟨ad, hA, hc⟩ := h3 (by omega)
  have hx : xs[i]? = some xs[i] := List.getElem?_eq_getElem (by omega)
  obtain ⟨c, _, hK, hcc⟩ := hc i _ hx
  exact ⟨c, _, hx, hK, ad, hA, hcc⟩
 let f : Nat → List Value := fun i => if hi : i < n then Classical.choose (key i hi) else []
 have hf : ∀ i, i < n → ∃ x : S75, xs[i]? = some x ∧ k75.K w x (f i) ∧ ∃ ad, A = some ad ∧ ∀ j u, (f i)[j]? = some u → w.cell? (ad.add (i * 3 + j)) = some u := fun i hi => by
  have := Classical.choose_spec (key i hi)
  simp only [f, dif_pos hi]
  exact this
 have hL : ∀ i, i < n → ((List.range n).map f)[i]? = some (f i) := fun i hi => by rw [List.getElem?_map, List.getElem?_range hi]; rfl
 refine ⟨(List.range n).map f, by simp, ⟨by simp, h2, fun hn => ?_⟩, fun i x hx => ?_⟩
 ·obtain ⟨ad, hA, _⟩ := h3 hn
  refine ⟨ad, hA, fun j p hj => ?_⟩
  have hjn : j < n := by
   have := (List.getElem?_eq_some_iff.1 hj).1
   simpa using this
  rw [hL j hjn] at hj
  obtain rfl := Option.some.inj hj
  obtain ⟨x, _, hK, ad2, hA2, hcc⟩ := hf j hjn
  rw [hA] at hA2
  obtain rfl := Option.some.inj hA2
  exact ⟨f j, k75.K_len hK, ⟨rfl, k75.K_len hK, k75.K_one hK⟩, hcc⟩
 ·have hi : i < n := by have := (List.getElem?_eq_some_iff.1 hx).1; omega
  obtain ⟨y, hy, hK, _⟩ := hf i hi
  rw [hx] at hy
  obtain rfl := Option.some.inj hy
  obtain ⟨A', c', e, hl, hC⟩ := k75_open hK
  exact ⟨A', c', by rw [hL i hi, e], hl, hC⟩
theorem raw_done {W : World} {base : Nat} {ok : Nat → Prop} {v : Value} {L : List (List Value)} {xs : List S75} (h : Kd.R (Kd.raw 3) 75 W base ok v L) (hl : L.length = xs.length)
  (hM : ∀ (i : Nat) (x : S75), xs[i]? = some x → ∃ v', L[i]? = some [v', Value.int .i64 x.f1, Value.int .i64 x.f2] ∧ (Kd.int .i64).R 3 W base (fun k => ok k ∧ some k ≠ v.ownBlock) v' x.f0) : Kd.R k75 75 W base ok v xs := by
 obtain ⟨h0, inner, ho, hr⟩ := h
 refine ⟨h0, inner, by rw [← hl]; exact ho, by rw [← hl]; exact hr.1, fun j x hx => ?_⟩
 obtain ⟨v', e, hR⟩ := hM j x hx
 have := hr.2 j _ e
 rw [show ((inner.drop (j * k75.sz)).take k75.sz) = [v', Value.int .i64 x.f1, Value.int .i64 x.f2] from this.1]
 exact k75_mkM W base _ x hR
def MA (w : World) (base : Nat) (ok : Nat → Prop) (x : S49) (cs : List Value) : Prop :=
 ∃ (P : Nat → Prop) (v1 v2 v3 v4 : Value), cs = [.string x.f0, v1, v2, v3, v4] ∧ k78.R 83 w base (fun k => ok k ∧ ¬ P k) v1 x.f1 ∧ (Kd.slice 3 (Kd.int .i64)).R 70 w base (fun k => ok k ∧ ¬ P k) v2 x.f2 ∧ k75.R 75 w base (fun k => ok k ∧ ¬ P k) v3 x.f3 ∧ (Kd.int .i64).R 3 w base (fun k => ok k ∧ P k) v4 x.f4
theorem MA_M {w : World} {base : Nat} {ok : Nat → Prop} {x : S49} {cs : List Value} (h : MA w base ok x cs) : k49.M w base ok x cs := by
 obtain ⟨P, v1, v2, v3, v4, rfl, g1, g2, g3, g4⟩ := h
 exact k49_mkM w base ok x (Kd.R_mono g1 fun _ hk => hk.1) (Kd.R_mono g2 fun _ hk => hk.1) (Kd.R_mono g3 fun _ hk => hk.1) (Kd.R_mono g4 fun _ hk => hk.1)
def k49a : Kd S49 where
 sz := 5
 E := [83, 70, 3, 75, 3, 3]
 K := k49.K
 M := MA
 K_len := fun h => k49.K_len h
 K_one := fun h => k49.K_one h
 K_below := fun hb h => k49.K_below hb h
 K_of_M := fun h => k49.K_of_M (MA_M h)
 M_mono := fun hok h => by
  obtain ⟨P, v1, v2, v3, v4, e, g1, g2, g3, g4⟩ := h
  exact ⟨P, v1, v2, v3, v4, e, Kd.R_mono g1 fun k hk => ⟨hok k hk.1, hk.2⟩, Kd.R_mono g2 fun k hk => ⟨hok k hk.1, hk.2⟩, Kd.R_mono g3 fun k hk => ⟨hok k hk.1, hk.2⟩, Kd.R_mono g4 fun k hk => ⟨hok k hk.1, hk.2⟩⟩
 M_bound := fun h => by
  obtain ⟨P, v1, v2, v3, v4, e, g1, g2, g3, g4⟩ := h
  refine ⟨P, v1, v2, v3, v4, e, Kd.R_mono (Kd.R_bound g1) fun k hk => ⟨⟨hk.1.1, hk.2.1, hk.2.2.1, ?_⟩, hk.1.2⟩, Kd.R_mono (Kd.R_bound g2) fun k hk => ⟨⟨hk.1.1, hk.2.1, hk.2.2.1, ?_⟩, hk.1.2⟩, Kd.R_mono (Kd.R_bound g3) fun k hk => ⟨⟨hk.1.1, hk.2.1, hk.2.2.1, ?_⟩, hk.1.2⟩, Kd.R_mono (Kd.R_bound g4) fun k hk => ⟨⟨hk.1.1, hk.2.1, hk.2.2.1, ?_⟩, hk.1.2⟩⟩
  all_goals
   obtain ⟨q, hq, hc⟩ := hk.2.2.2
   refine ⟨q, ?_, hc⟩
  ·have : q ∈ [83] := hq
   simp at this ⊢; omega
  ·have : q ∈ [70, 3] := hq
   simp at this ⊢; omega
  ·have : q ∈ [75, 3] := hq
   simp at this ⊢; omega
  ·have : q ∈ [3] := hq
   simp at this ⊢; omega
 M_move := fun hm h => by
  obtain ⟨P, v1, v2, v3, v4, e, g1, g2, g3, g4⟩ := h
  exact ⟨P, v1, v2, v3, v4, e, Kd.R_move g1 fun k hk => hm k hk.1, Kd.R_move g2 fun k hk => hm k hk.1, Kd.R_move g3 fun k hk => hm k hk.1, Kd.R_move g4 fun k hk => hm k hk.1⟩
 M_lower := fun hb h => by
  obtain ⟨P, v1, v2, v3, v4, e, g1, g2, g3, g4⟩ := h
  exact ⟨P, v1, v2, v3, v4, e, Kd.R_lower g1 hb, Kd.R_lower g2 hb, Kd.R_lower g3 hb, Kd.R_lower g4 hb⟩
theorem S_a {e : Nat} {w : World} {base : Nat} {ok : Nat → Prop} {v : Value} {xs : List S49} (h : Kd.S k49a e w base ok v xs) : Kd.S k49 e w base ok v xs := by
 obtain ⟨f, h0, inner, ho, hr⟩ := h
 exact ⟨f, h0, inner, ho, hr.imp_ fun p c hp => MA_M hp⟩
theorem col_cells {w W : World} {a b c d e : Value} (hW : Below (w.alloc (Obj.cells #[a, b, c, d, e] 83)).heap.size (w.alloc (Obj.cells #[a, b, c, d, e] 83)) W) : W.cell? ⟨w.heap.size, 0, none⟩ = some a ∧ W.cell? ⟨w.heap.size, 1, none⟩ = some b ∧ W.cell? ⟨w.heap.size, 2, none⟩ = some c ∧ W.cell? ⟨w.heap.size, 3, none⟩ = some d ∧ W.cell? ⟨w.heap.size, 4, none⟩ = some e := by
 have hb := Go.Deep.blk_alloc_new w (Obj.cells #[a, b, c, d, e] 83)
 have hb2 := (hW.block w.heap.size (blk_lt hb)).trans hb
 exact ⟨(blk_cell hb2 0).trans rfl, (blk_cell hb2 1).trans rfl, (blk_cell hb2 2).trans rfl, (blk_cell hb2 3).trans rfl, (blk_cell hb2 4).trans rfl⟩
theorem fits_cells {w W : World} {a b c d e f g h : Value} (hW : Below ((w.alloc (Obj.cells #[a, b, c, d, e] 83)).alloc (Obj.cells #[f, g, h] 87)).heap.size ((w.alloc (Obj.cells #[a, b, c, d, e] 83)).alloc (Obj.cells #[f, g, h] 87)) W) :
  W.cell? ⟨w.heap.size, 0, none⟩ = some a ∧ W.cell? ⟨w.heap.size, 1, none⟩ = some b ∧ W.cell? ⟨w.heap.size, 2, none⟩ = some c ∧ W.cell? ⟨w.heap.size, 3, none⟩ = some d ∧ W.cell? ⟨w.heap.size, 4, none⟩ = some e ∧ W.cell? ⟨w.heap.size + 1, 0, none⟩ = some f ∧ W.cell? ⟨w.heap.size + 1, 1, none⟩ = some g ∧ W.cell? ⟨w.heap.size + 1, 2, none⟩ = some h := by
 have s1 : (w.alloc (Obj.cells #[a, b, c, d, e] 83)).heap.size = w.heap.size + 1 := Array.size_push _
 have h1 := blk_alloc (Go.Deep.blk_alloc_new w (Obj.cells #[a, b, c, d, e] 83)) (Obj.cells #[f, g, h] 87)
 have h2 := Go.Deep.blk_alloc_new (w.alloc (Obj.cells #[a, b, c, d, e] 83)) (Obj.cells #[f, g, h] 87)
 rw [s1] at h2
 have k1 := (hW.block _ (blk_lt h1)).trans h1
 have k2 := (hW.block _ (blk_lt h2)).trans h2
 exact ⟨(blk_cell k1 0).trans rfl, (blk_cell k1 1).trans rfl, (blk_cell k1 2).trans rfl, (blk_cell k1 3).trans rfl, (blk_cell k1 4).trans rfl, (blk_cell k2 0).trans rfl, (blk_cell k2 1).trans rfl, (blk_cell k2 2).trans rfl⟩
theorem nil_beq (l : List UInt8) : (l == []) = l.isEmpty := by cases l <;> rfl
end Go.Proofs.YthgfdnffnbclpaaGreatDoor.PAll
