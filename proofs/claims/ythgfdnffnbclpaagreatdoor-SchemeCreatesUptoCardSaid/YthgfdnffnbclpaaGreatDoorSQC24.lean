import Derived.Test.YthgfdnffnbclpaaGreatDoorSQC13
import Derived.Test.YthgfdnffnbclpaaGreatDoorSQC23
set_option linter.unusedVariables false
set_option linter.unusedSimpArgs false
namespace Go.Proofs.YthgfdnffnbclpaaGreatDoor.PAll
open Go.RowKit Go.Proofs.YthgfdnffnbclpaaGreatDoorW.PrintWords Go.Proofs.YthgfdnffnbclpaaGreatDoorW.PrintLast Go.Proofs.YthgfdnffnbclpaaGreatDoorW.PrintMore
set_option maxHeartbeats 4000000 in
set_option maxRecDepth 100000 in
theorem zbY (A0 : Option Addr) (c0 : Nat) (A1 : Option Addr) (c1 : Nat) (l : List Int) (w : World) (hA : Kd.C (Kd.int .i64) w A0 l.length l) (hc0 : l.length ≤ c0) (hB : Kd.C (Kd.int .i64) w A1 l.length l) (hc1 : l.length ≤ c1) :
  Calls Tryz.prog 38 #[.slice A0 l.length c0, .slice A1 l.length c1] w fun e w' => e = .returned (.bool true) ∧ Below w.heap.size w w' := by
 have HA := Aside0.mk hA
 have HB := Aside0.mk hB
 have hlen := hA.2.1
 have e1 : ((l.length : Int) == (l.length : Int)) = true := beq_iff_eq.mpr rfl
 have e2 : ((l.length : Int) != (l.length : Int)) = false := by rw [bne, e1]; rfl
 clear hA hB
 go_enter Tryz.func38, Tryz.ntmps38
 go_wp2
 go_loopg [5] l.length (fun gk v5 wx => ∃ (i : Nat), i + gk = l.length ∧ v5 = .int .i64 i ∧ Aside0 (Below w.heap.size w wx))
 case atStart => exact ⟨0, by omega, rfl, ⟨Below.refl _ _⟩⟩
 case round =>
  clear e1 e2
  obtain ⟨i, hi, rfl, HW⟩ := hrel
  cases gk with
  | zero =>
   have hii : ¬ (i : Int) < (l.length : Int) := by omega
   go_wp2
   go_ret
   exact ⟨rfl, HW.out⟩
  | succ gi =>
   have hii : (i : Int) < (l.length : Int) := by omega
   have hi0 : (0 : Int) ≤ (i : Int) := by omega
   obtain ⟨aa, haa, u0⟩ := Kd.at_int HA.out (i : Int) hi0 hii
   cases haa
   obtain ⟨ab, hab, v0⟩ := Kd.at_int HB.out (i : Int) hi0 hii
   cases hab
   rw [Int.toNat_natCast] at u0 v0
   generalize rd l (i : Int) = x at *
   replace u0 := (HW.out.cell (World.block_lt_of_cell? w _ u0)).trans u0
   replace v0 := (HW.out.cell (World.block_lt_of_cell? w _ v0)).trans v0
   have e1 : (x == x) = true := beq_iff_eq.mpr rfl
   have e2 : (x != x) = false := by rw [bne, e1]; rfl
   go_wp2
   go_quiet (fail)
   go_wp2
   go_roundg gi
   case measure => omega
   case rel => exact ⟨i + 1, by omega, za3 (by omega), ⟨by repeat (first | (with_reducible first | exact HW.out | apply zaa | apply zab) | exact HW.out)⟩⟩
theorem zlP (d : Nat) (w : World) (x0 y0 : ByteArray) (x1 y1 : Int) (x2 y2 : Bool) (x3 y3 : Int) (x4 y4 : Int) :
  (Op.equalIn (d + 2) 83 (.agg #[.string x0, .int .u8 x1, .bool x2, .int .i64 x3, .int .i64 x4]) (.agg #[.string y0, .int .u8 y1, .bool y2, .int .i64 y3, .int .i64 y4])).run Tryz.prog w = .ok (x0.toList == y0.toList && (x1 == y1 && (x2 == y2 && (x3 == y3 && (x4 == y4))))) w := by
 refine zku Tryz.underlying83 (by kernel_rfl) ?_
 refine zcl (by rfl) (by go_simp; rfl) (by go_simp; rfl) (by go_simp) ?_
 refine zcl (by rfl) (by go_simp; rfl) (by go_simp; rfl) (by go_simp) ?_
 refine zcl (by rfl) (by go_simp; rfl) (by go_simp; rfl) (by go_simp) ?_
 refine zcl (by rfl) (by go_simp; rfl) (by go_simp; rfl) (by go_simp) ?_
 exact zhj (by rfl) (by go_simp; rfl) (by go_simp; rfl) (by go_simp)
attribute [local go_sem high] zlP
def sameS_T6 : Bool × List (List Nat × List Nat) := (true, [([], []), ([], []), ([0, 1], [0, 1]), ([2], [2]), ([], []), ([], []), ([4, 5], [4, 5]), ([6], [6]), ([], []), ([], []), ([8, 3, 0, 1, 2, 3, 8, 9], [3, 8]), ([9, 7, 10, 0, 1, 2, 3, 4, 5, 6, 7, 8, 9, 10], [7, 9])])
def zjG : List Nat := [0, 0, 3, 7, 0, 0, 48, 112, 0, 0, 783, 2047]
theorem zhU : rtab .any (zlM Tryz.f10 6) = sameS_T6 := by kernel_rfl
theorem zgx : zdR sameS_T6.2 zjG = true := by kernel_rfl
abbrev smC (aa ab : Addr) (P1 : Option Addr) (p1 : Nat) (P2 : Option Addr) (p2 : Nat) (P3 : Option Addr) (p3 : Nat) (P4 : Option Addr) (p4 : Nat) (Q1 : Option Addr) (q1 : Nat) (Q2 : Option Addr) (q2 : Nat) (Q3 : Option Addr) (q3 : Nat) (Q4 : Option Addr) (q4 : Nat) (x : S49) (i : Nat) (W : World) : Prop :=
 W.cell? (aa.add (i * 5)) = some (.string x.f0) ∧ W.cell? ⟨(aa.add (i * 5)).block, (aa.add (i * 5)).off + 1, none⟩ = some (.slice P1 x.f1.length p1) ∧ W.cell? ⟨(aa.add (i * 5)).block, (aa.add (i * 5)).off + 2, none⟩ = some (.slice P2 x.f2.length p2) ∧ W.cell? ⟨(aa.add (i * 5)).block, (aa.add (i * 5)).off + 3, none⟩ = some (.slice P3 x.f3.length p3) ∧ W.cell? ⟨(aa.add (i * 5)).block, (aa.add (i * 5)).off + 4, none⟩ = some (.slice P4 x.f4.length p4) ∧
 W.cell? (ab.add (i * 5)) = some (.string x.f0) ∧ W.cell? ⟨(ab.add (i * 5)).block, (ab.add (i * 5)).off + 1, none⟩ = some (.slice Q1 x.f1.length q1) ∧ W.cell? ⟨(ab.add (i * 5)).block, (ab.add (i * 5)).off + 2, none⟩ = some (.slice Q2 x.f2.length q2) ∧ W.cell? ⟨(ab.add (i * 5)).block, (ab.add (i * 5)).off + 3, none⟩ = some (.slice Q3 x.f3.length q3) ∧ W.cell? ⟨(ab.add (i * 5)).block, (ab.add (i * 5)).off + 4, none⟩ = some (.slice Q4 x.f4.length q4)
theorem put5 {W : World} {g : Nat} {t : TypeId} {z0 z1 z2 z3 z4 v0 v1 v2 v3 v4 : Value} (h : W.heap[g]? = some (.cells #[z0, z1, z2, z3, z4] t (0, 0))) : (((((W.setCell ⟨g, 0, none⟩ v0).setCell ⟨g, 1, none⟩ v1).setCell ⟨g, 2, none⟩ v2).setCell ⟨g, 3, none⟩ v3).setCell ⟨g, 4, none⟩ v4).heap[g]? = some (.cells #[v0, v1, v2, v3, v4] t (0, 0)) :=
 zas (zas (zas (zas (zas h 0 v0 rfl) 1 v1 rfl) 2 v2 rfl) 3 v3 rfl) 4 v4 rfl
theorem far5 {W : World} {g k : Nat} {t : TypeId} {cs : Array Value} (v0 v1 v2 v3 v4 : Value) (h : W.heap[k]? = some (.cells cs t (0, 0))) (hne : k ≠ g) : (((((W.setCell ⟨g, 0, none⟩ v0).setCell ⟨g, 1, none⟩ v1).setCell ⟨g, 2, none⟩ v2).setCell ⟨g, 3, none⟩ v3).setCell ⟨g, 4, none⟩ v4).heap[k]? = some (.cells cs t (0, 0)) :=
 zbB (zbB (zbB (zbB (zbB h hne v0) hne v1) hne v2) hne v3) hne v4
theorem zkm {w W : World} {g : Nat} (v0 v1 v2 v3 v4 : Value) (h : Below w.heap.size w W) (hg : w.heap.size ≤ g) : Below w.heap.size w (((((W.setCell ⟨g, 0, none⟩ v0).setCell ⟨g, 1, none⟩ v1).setCell ⟨g, 2, none⟩ v2).setCell ⟨g, 3, none⟩ v3).setCell ⟨g, 4, none⟩ v4) :=
 zag (zag (zag (zag (zag h hg) hg) hg) hg) hg
abbrev smG (g1 g2 : Nat) (P1 : Option Addr) (p1 : Nat) (P2 : Option Addr) (p2 : Nat) (P3 : Option Addr) (p3 : Nat) (P4 : Option Addr) (p4 : Nat) (Q1 : Option Addr) (q1 : Nat) (Q2 : Option Addr) (q2 : Nat) (Q3 : Option Addr) (q3 : Nat) (Q4 : Option Addr) (q4 : Nat) (x : S49) (W : World) : Prop :=
 W.cell? ⟨g1, 0, none⟩ = some (.string x.f0) ∧ W.cell? ⟨g1, 1, none⟩ = some (.slice P1 x.f1.length p1) ∧ W.cell? ⟨g1, 2, none⟩ = some (.slice P2 x.f2.length p2) ∧ W.cell? ⟨g1, 3, none⟩ = some (.slice P3 x.f3.length p3) ∧ W.cell? ⟨g1, 4, none⟩ = some (.slice P4 x.f4.length p4) ∧
 W.cell? ⟨g2, 0, none⟩ = some (.string x.f0) ∧ W.cell? ⟨g2, 1, none⟩ = some (.slice Q1 x.f1.length q1) ∧ W.cell? ⟨g2, 2, none⟩ = some (.slice Q2 x.f2.length q2) ∧ W.cell? ⟨g2, 3, none⟩ = some (.slice Q3 x.f3.length q3) ∧ W.cell? ⟨g2, 4, none⟩ = some (.slice Q4 x.f4.length q4)
set_option maxHeartbeats 4000000 in
set_option maxRecDepth 100000 in
theorem zhM (A0 : Option Addr) (c0 : Nat) (A1 : Option Addr) (c1 : Nat) (l : List S49) (w : World) (hA : Kd.C k49 w A0 l.length l) (hc0 : l.length ≤ c0) (hB : Kd.C k49 w A1 l.length l) (hc1 : l.length ≤ c1) :
  Calls Tryz.prog 10 #[.slice A0 l.length c0, .slice A1 l.length c1] w fun e w' => e = .returned (.bool true) ∧ Below w.heap.size w w' := by
 have HA := Aside0.mk hA
 have HB := Aside0.mk hB
 have hlen := hA.2.1
 have e1 : ((l.length : Int) == (l.length : Int)) = true := beq_iff_eq.mpr rfl
 have e2 : ((l.length : Int) != (l.length : Int)) = false := by rw [bne, e1]; rfl
 clear hA hB
 go_enter Tryz.func10, Tryz.ntmps10
 go_wp2
 go_loopg [5] l.length (fun gk v5 wx => ∃ (i : Nat), i + gk = l.length ∧ v5 = .int .i64 i ∧ Aside0 (Below w.heap.size w wx))
 case atStart => exact ⟨0, by omega, rfl, ⟨Below.refl _ _⟩⟩
 case round =>
  clear e1 e2
  obtain ⟨i, hi, rfl, HW⟩ := hrel
  cases gk with
  | zero =>
   have hii : ¬ (i : Int) < (l.length : Int) := by omega
   go_wp2
   go_ret
   exact ⟨rfl, HW.out⟩
  | succ gi =>
   have hii : (i : Int) < (l.length : Int) := by omega
   have hi0 : (0 : Int) ≤ (i : Int) := by omega
   obtain ⟨aa, P1, p1, P2, p2, P3, p3, P4, p4, haa, u0, u1, u2, u3, u4, m1, C1, m2, C2, m3, C3, m4, C4⟩ := zaR HA.out (i : Int) hi0 hii
   cases haa
   obtain ⟨ab, Q1, q1, Q2, q2, Q3, q3, Q4, q4, hab, v0, v1, v2, v3, v4, n1, D1, n2, D2, n3, D3, n4, D4⟩ := zaR HB.out (i : Int) hi0 hii
   cases hab
   rw [Int.toNat_natCast] at u0 u1 u2 u3 u4 v0 v1 v2 v3 v4
   generalize rd_T49 l (i : Int) = x at *
   have KC : Aside0 (∀ W, Below w.heap.size w W → smC aa ab P1 p1 P2 p2 P3 p3 P4 p4 Q1 q1 Q2 q2 Q3 q3 Q4 q4 x i W) := ⟨fun W hW =>
    ⟨(hW.cell (World.block_lt_of_cell? w _ u0)).trans u0, (hW.cell (World.block_lt_of_cell? w _ u1)).trans u1, (hW.cell (World.block_lt_of_cell? w _ u2)).trans u2, (hW.cell (World.block_lt_of_cell? w _ u3)).trans u3, (hW.cell (World.block_lt_of_cell? w _ u4)).trans u4,
     (hW.cell (World.block_lt_of_cell? w _ v0)).trans v0, (hW.cell (World.block_lt_of_cell? w _ v1)).trans v1, (hW.cell (World.block_lt_of_cell? w _ v2)).trans v2, (hW.cell (World.block_lt_of_cell? w _ v3)).trans v3, (hW.cell (World.block_lt_of_cell? w _ v4)).trans v4⟩⟩
   have HC1 := Aside0.mk C1
   have HD1 := Aside0.mk D1
   have HC2 := Aside0.mk C2
   have HD2 := Aside0.mk D2
   have HC3 := Aside0.mk C3
   have HD3 := Aside0.mk D3
   have HI : Aside0 (∀ W, Below w.heap.size w W → Calls Tryz.prog 38 #[.slice P4 x.f4.length p4, .slice Q4 x.f4.length q4] W fun e w' => e = .returned (.bool true) ∧ Below W.heap.size W w') := ⟨fun W hW => zbY P4 p4 Q4 q4 x.f4 W (Kd.C_below C4 hW) m4 (Kd.C_below D4 hW) n4⟩
   clear C1 C2 C3 C4 D1 D2 D3 D4 u0 u1 u2 u3 u4 v0 v1 v2 v3 v4
   go_wp2
   have HB := Aside0.mk (zab HW.out)
   refine zbI (n := 12) (S := fun w' => smC aa ab P1 p1 P2 p2 P3 p3 P4 p4 Q1 q1 Q2 q2 Q3 q3 Q4 q4 x i w') (ds := []) #[false, false, false, false, false, false, false, false, false, false, false, false] (by kernel_rfl) rfl rfl (KC.out _ (by repeat (first | (with_reducible first | exact HB.out | apply zac | apply zaa | apply zab | refine zag ?_ GE1.out | refine zag ?_ GE2.out) | exact HB.out))) (fun hHeld => ?_); refine zi6 zhU zgx (fun HT_ HW_ => ?_)
   generalize wr.drew = w8 at HB hHeld ⊢
   refine zau (i := 0) (N := some 22) (v := ?_) (a' := ?_) #[true, false, false, false, false, false, false, false, false, false, false, false] rfl rfl (zeB HT_.out (by kernel_rfl)) (fun _ _ _ h => h) (Or.inl ⟨by rfl, ?_⟩) ?_ ?_
   rotate_left
   ·intro w'
    go_simp
    with_reducible rfl
   rotate_left
   ·simp only [Act.put, List.setIfInBounds_toArray, List.set_cons_zero, List.set_cons_succ, zaj, zak]
    rfl
   refine zau (i := 1) (N := some 23) (v := ?_) (a' := ?_) #[true, true, false, false, false, false, false, false, false, false, false, false] rfl rfl (zeB HT_.out (by kernel_rfl)) (fun _ _ _ h => h) (Or.inl ⟨by rfl, ?_⟩) ?_ ?_
   rotate_left
   ·intro w'
    go_simp
    with_reducible rfl
   rotate_left
   ·simp only [Act.put, List.setIfInBounds_toArray, List.set_cons_zero, List.set_cons_succ, zaj, zak]
    rfl
   refine zau (i := 2) (N := some 24) (v := ?_) (a' := ?_) #[true, true, true, false, false, false, false, false, false, false, false, false] rfl rfl (zeB HT_.out (by kernel_rfl)) (fun _ _ _ h => h) (Or.inl ⟨by rfl, ?_⟩) ?_ ?_
   rotate_left
   ·intro w'
    go_simp
    with_reducible rfl
   rotate_left
   ·simp only [Act.put, List.setIfInBounds_toArray, List.set_cons_zero, List.set_cons_succ, zaj, zak]
    rfl
   refine zau (i := 4) (N := some 26) (v := ?_) (a' := ?_) #[true, true, true, false, true, false, false, false, false, false, false, false] rfl rfl (zeB HT_.out (by kernel_rfl)) (fun _ _ _ h => h) (Or.inl ⟨by rfl, ?_⟩) ?_ ?_
   rotate_left
   ·intro w'
    go_simp
    with_reducible rfl
   rotate_left
   ·simp only [Act.put, List.setIfInBounds_toArray, List.set_cons_zero, List.set_cons_succ, zaj, zak]
    rfl
   refine zau (i := 5) (N := some 27) (v := ?_) (a' := ?_) #[true, true, true, false, true, true, false, false, false, false, false, false] rfl rfl (zeB HT_.out (by kernel_rfl)) (fun _ _ _ h => h) (Or.inl ⟨by rfl, ?_⟩) ?_ ?_
   rotate_left
   ·intro w'
    go_simp
    with_reducible rfl
   rotate_left
   ·simp only [Act.put, List.setIfInBounds_toArray, List.set_cons_zero, List.set_cons_succ, zaj, zak]
    rfl
   refine zau (i := 6) (N := some 28) (v := ?_) (a' := ?_) #[true, true, true, false, true, true, true, false, false, false, false, false] rfl rfl (zeB HT_.out (by kernel_rfl)) (fun _ _ _ h => h) (Or.inl ⟨by rfl, ?_⟩) ?_ ?_
   rotate_left
   ·intro w'
    go_simp
    with_reducible rfl
   rotate_left
   ·simp only [Act.put, List.setIfInBounds_toArray, List.set_cons_zero, List.set_cons_succ, zaj, zak]
    rfl
   refine take_ (i := 3) (N := some 25) (v := ?_) (a' := ?_) #[true, true, true, true, true, true, true, false, false, false, false, false] rfl rfl (zhr HT_.out HW_.out (by kernel_rfl)) (fun _ _ _ h => h) (Or.inl ⟨by rfl, ?_⟩) hHeld ?_ ?_
   rotate_left
   ·rintro w' ⟨s0, s1, s2, s3, s4, s5, s6, s7, s8, s9⟩
    go_simp
    with_reducible rfl
   rotate_left
   ·simp only [Act.put, List.setIfInBounds_toArray, List.set_cons_zero, List.set_cons_succ, zaj, zak]
    rfl
   refine take_ (i := 7) (N := some 29) (v := ?_) (a' := ?_) #[true, true, true, true, true, true, true, true, false, false, false, false] rfl rfl (zhr HT_.out HW_.out (by kernel_rfl)) (fun _ _ _ h => h) (Or.inl ⟨by rfl, ?_⟩) hHeld ?_ ?_
   rotate_left
   ·rintro w' ⟨s0, s1, s2, s3, s4, s5, s6, s7, s8, s9⟩
    go_simp
    with_reducible rfl
   rotate_left
   ·simp only [Act.put, List.setIfInBounds_toArray, List.set_cons_zero, List.set_cons_succ, zaj, zak]
    rfl
   refine zlR (σ := Nat × Nat) 2 #[true, true, true, true, true, true, true, true, true, true, false, false] (fun s_ => [(6, .pointer (some ⟨s_.1, 0, none⟩)), (7, .pointer (some ⟨s_.2, 0, none⟩))]) (fun s_ w' => (smC aa ab P1 p1 P2 p2 P3 p3 P4 p4 Q1 q1 Q2 q2 Q3 q3 Q4 q4 x i w') ∧ (w'.heap[s_.1]? = some (.cells #[.string (⟨#[]⟩ : ByteArray), .slice none 0 0, .slice none 0 0, .slice none 0 0, .slice none 0 0] 72 (0, 0))) ∧ (w'.heap[s_.2]? = some (.cells #[.string (⟨#[]⟩ : ByteArray), .slice none 0 0, .slice none 0 0, .slice none 0 0, .slice none 0 0] 72 (0, 0))) ∧ (w.heap.size ≤ s_.1) ∧ (w.heap.size ≤ s_.1) ∧ (s_.2 ≠ s_.1) ∧ (s_.1 ≠ s_.2) ∧ (w.heap.size ≤ s_.2) ∧ (w.heap.size ≤ s_.2) ∧ (Below w.heap.size w w')) ?_ ?_
   rotate_left
   ·intro hCont
    refine two_ (i := 8) (j := 9) (Ni := some 6) (Nj := some 7) #[true, true, true, true, true, true, true, true, true, false, false, false] #[true, true, true, true, true, true, true, true, false, true, false, false] rfl rfl rfl rfl (zlh HT_.out (by kernel_rfl)) (by decide) (by decide) (fun K hK => ?_) (fun K hK => ?_)
    ·skip
     refine zdv ?hg (N := 6) ?hd (cs := #[.string (⟨#[]⟩ : ByteArray), .slice none 0 0, .slice none 0 0, .slice none 0 0, .slice none 0 0]) (t := 72) ?hr ?_; (case hd => rfl); (case hg => rfl); (case hr => first | (go_simp; done) | (go_simp; rfl))
     intro g1 hg w9 hbox hb
     have n0_ := Aside0.mk (below_step (by repeat (first | (with_reducible first | exact HB.out | apply zac | apply zaa | apply zab) | exact HB.out)) hb)
     have n1_ := Aside0.mk (hbox)
     have n2_ := Aside0.mk ((by rw [hg]; exact (zal (by repeat (first | (with_reducible first | exact HB.out | apply zac | apply zaa | apply zab) | exact HB.out))) : w.heap.size ≤ g1))
     have n3_ := Aside0.mk ((by rw [hg]; exact (zal (by repeat (first | (with_reducible first | exact HB.out | apply zac | apply zaa | apply zab) | exact HB.out))) : w.heap.size ≤ g1))
     clear HB
     have HB := n0_
     have BK1 := n1_
     have GW1 := n2_
     have GE1 := n3_
     clear n0_ n1_ n2_ n3_
     clear hb hbox hg
     refine hK.out _ _ (KC.out _ (by repeat (first | (with_reducible first | exact HB.out | apply zac | apply zaa | apply zab | refine zag ?_ GE1.out | refine zag ?_ GE2.out) | exact HB.out))) (fun hHeld => ?_)
     clear hK K
     refine za8 (a' := ?_) ?_ ?_
     rotate_left
     ·show Act.put _ (some 6) _ = _
      simp only [Act.put, List.setIfInBounds_toArray, List.set_cons_zero, List.set_cons_succ, zaj, zak]
      rfl
     refine one_ (i := 9) (N := some 7) #[true, true, true, true, true, true, true, true, true, true, false, false] rfl rfl (zhq HT_.out (by kernel_rfl)) (by decide) (fun K hK => ?_)
     refine zdv ?hg (N := 7) ?hd (cs := #[.string (⟨#[]⟩ : ByteArray), .slice none 0 0, .slice none 0 0, .slice none 0 0, .slice none 0 0]) (t := 72) ?hr ?_; (case hd => rfl); (case hg => rfl); (case hr => first | (go_simp; done) | (go_simp; rfl))
     intro g2 hg w10 hbox hb
     have n0_ := Aside0.mk (zaB (g := g1) (o := .cells #[.string (⟨#[]⟩ : ByteArray), .slice none 0 0, .slice none 0 0, .slice none 0 0, .slice none 0 0] 72 (0, 0)) (by (with_reducible repeat (first | refine zaw ?_ _ | refine zap ?_ | refine zai ?_ _)); exact BK1.out) hb)
     have n1_ := Aside0.mk (below_step (by repeat (first | (with_reducible first | exact HB.out | apply zac | apply zaa | apply zab | refine zag ?_ GE1.out) | exact HB.out)) hb)
     have n2_ := Aside0.mk (hbox)
     have n3_ := Aside0.mk ((by rw [hg]; exact (zal (by repeat (first | (with_reducible first | exact HB.out | apply zac | apply zaa | apply zab | refine zag ?_ GE1.out) | exact HB.out))) : w.heap.size ≤ g2))
     have n4_ := Aside0.mk ((by rw [hg]; exact (zal (by repeat (first | (with_reducible first | exact HB.out | apply zac | apply zaa | apply zab | refine zag ?_ GE1.out) | exact HB.out))) : w.heap.size ≤ g2))
     have n5_ := Aside0.mk ((by rw [hg]; exact Nat.ne_of_lt (zah (g := g1) (o := .cells #[.string (⟨#[]⟩ : ByteArray), .slice none 0 0, .slice none 0 0, .slice none 0 0, .slice none 0 0] 72 (0, 0)) (by (with_reducible repeat (first | refine zaw ?_ _ | refine zap ?_ | refine zai ?_ _)); exact BK1.out)) : g1 ≠ g2))
     have n6_ := Aside0.mk ((by rw [hg]; exact Nat.ne_of_gt (zah (g := g1) (o := .cells #[.string (⟨#[]⟩ : ByteArray), .slice none 0 0, .slice none 0 0, .slice none 0 0, .slice none 0 0] 72 (0, 0)) (by (with_reducible repeat (first | refine zaw ?_ _ | refine zap ?_ | refine zai ?_ _)); exact BK1.out)) : g2 ≠ g1))
     clear BK1
     clear HB
     have BK1 := n0_
     have HB := n1_
     have BK2 := n2_
     have GW2 := n3_
     have GE2 := n4_
     have NB12 := n5_
     have NB21 := n6_
     clear n0_ n1_ n2_ n3_ n4_ n5_ n6_
     clear hb hbox hg
     refine hK.out _ _ (KC.out _ (by repeat (first | (with_reducible first | exact HB.out | apply zac | apply zaa | apply zab | refine zag ?_ GE1.out | refine zag ?_ GE2.out) | exact HB.out))) (fun hHeld => ?_)
     clear hK K
     refine za8 (a' := ?_) ?_ ?_
     rotate_left
     ·show Act.put _ (some 7) _ = _
      simp only [Act.put, List.setIfInBounds_toArray, List.set_cons_zero, List.set_cons_succ, zaj, zak]
      rfl
     exact za8 (by simp only [zeJ, Act.put, List.setIfInBounds_toArray, List.set_cons_zero, List.set_cons_succ]) (hCont (g1, g2) _ ⟨hHeld, (by (with_reducible repeat (first | refine zaw ?_ _ | refine zap ?_ | refine zai ?_ _)); exact BK1.out), (by (with_reducible repeat (first | refine zaw ?_ _ | refine zap ?_ | refine zai ?_ _)); exact BK2.out), GW1.out, GE1.out, NB21.out, NB12.out, GW2.out, GE2.out, (by repeat (first | (with_reducible first | exact HB.out | apply zac | apply zaa | apply zab | refine zag ?_ GE1.out | refine zag ?_ GE2.out) | exact HB.out))⟩)
    ·skip
     refine zdv ?hg (N := 7) ?hd (cs := #[.string (⟨#[]⟩ : ByteArray), .slice none 0 0, .slice none 0 0, .slice none 0 0, .slice none 0 0]) (t := 72) ?hr ?_; (case hd => rfl); (case hg => rfl); (case hr => first | (go_simp; done) | (go_simp; rfl))
     intro g2 hg w9 hbox hb
     have n0_ := Aside0.mk (below_step (by repeat (first | (with_reducible first | exact HB.out | apply zac | apply zaa | apply zab) | exact HB.out)) hb)
     have n1_ := Aside0.mk (hbox)
     have n2_ := Aside0.mk ((by rw [hg]; exact (zal (by repeat (first | (with_reducible first | exact HB.out | apply zac | apply zaa | apply zab) | exact HB.out))) : w.heap.size ≤ g2))
     have n3_ := Aside0.mk ((by rw [hg]; exact (zal (by repeat (first | (with_reducible first | exact HB.out | apply zac | apply zaa | apply zab) | exact HB.out))) : w.heap.size ≤ g2))
     clear HB
     have HB := n0_
     have BK2 := n1_
     have GW2 := n2_
     have GE2 := n3_
     clear n0_ n1_ n2_ n3_
     clear hb hbox hg
     refine hK.out _ _ (KC.out _ (by repeat (first | (with_reducible first | exact HB.out | apply zac | apply zaa | apply zab | refine zag ?_ GE1.out | refine zag ?_ GE2.out) | exact HB.out))) (fun hHeld => ?_)
     clear hK K
     refine za8 (a' := ?_) ?_ ?_
     rotate_left
     ·show Act.put _ (some 7) _ = _
      simp only [Act.put, List.setIfInBounds_toArray, List.set_cons_zero, List.set_cons_succ, zaj, zak]
      rfl
     refine one_ (i := 8) (N := some 6) #[true, true, true, true, true, true, true, true, true, true, false, false] rfl rfl (zhq HT_.out (by kernel_rfl)) (by decide) (fun K hK => ?_)
     refine zdv ?hg (N := 6) ?hd (cs := #[.string (⟨#[]⟩ : ByteArray), .slice none 0 0, .slice none 0 0, .slice none 0 0, .slice none 0 0]) (t := 72) ?hr ?_; (case hd => rfl); (case hg => rfl); (case hr => first | (go_simp; done) | (go_simp; rfl))
     intro g1 hg w10 hbox hb
     have n0_ := Aside0.mk (zaB (g := g2) (o := .cells #[.string (⟨#[]⟩ : ByteArray), .slice none 0 0, .slice none 0 0, .slice none 0 0, .slice none 0 0] 72 (0, 0)) (by (with_reducible repeat (first | refine zaw ?_ _ | refine zap ?_ | refine zai ?_ _)); exact BK2.out) hb)
     have n1_ := Aside0.mk (below_step (by repeat (first | (with_reducible first | exact HB.out | apply zac | apply zaa | apply zab | refine zag ?_ GE2.out) | exact HB.out)) hb)
     have n2_ := Aside0.mk (hbox)
     have n3_ := Aside0.mk ((by rw [hg]; exact (zal (by repeat (first | (with_reducible first | exact HB.out | apply zac | apply zaa | apply zab | refine zag ?_ GE2.out) | exact HB.out))) : w.heap.size ≤ g1))
     have n4_ := Aside0.mk ((by rw [hg]; exact (zal (by repeat (first | (with_reducible first | exact HB.out | apply zac | apply zaa | apply zab | refine zag ?_ GE2.out) | exact HB.out))) : w.heap.size ≤ g1))
     have n5_ := Aside0.mk ((by rw [hg]; exact Nat.ne_of_lt (zah (g := g2) (o := .cells #[.string (⟨#[]⟩ : ByteArray), .slice none 0 0, .slice none 0 0, .slice none 0 0, .slice none 0 0] 72 (0, 0)) (by (with_reducible repeat (first | refine zaw ?_ _ | refine zap ?_ | refine zai ?_ _)); exact BK2.out)) : g2 ≠ g1))
     have n6_ := Aside0.mk ((by rw [hg]; exact Nat.ne_of_gt (zah (g := g2) (o := .cells #[.string (⟨#[]⟩ : ByteArray), .slice none 0 0, .slice none 0 0, .slice none 0 0, .slice none 0 0] 72 (0, 0)) (by (with_reducible repeat (first | refine zaw ?_ _ | refine zap ?_ | refine zai ?_ _)); exact BK2.out)) : g1 ≠ g2))
     clear BK2
     clear HB
     have BK2 := n0_
     have HB := n1_
     have BK1 := n2_
     have GW1 := n3_
     have GE1 := n4_
     have NB21 := n5_
     have NB12 := n6_
     clear n0_ n1_ n2_ n3_ n4_ n5_ n6_
     clear hb hbox hg
     refine hK.out _ _ (KC.out _ (by repeat (first | (with_reducible first | exact HB.out | apply zac | apply zaa | apply zab | refine zag ?_ GE1.out | refine zag ?_ GE2.out) | exact HB.out))) (fun hHeld => ?_)
     clear hK K
     refine za8 (a' := ?_) ?_ ?_
     rotate_left
     ·show Act.put _ (some 6) _ = _
      simp only [Act.put, List.setIfInBounds_toArray, List.set_cons_zero, List.set_cons_succ, zaj, zak]
      rfl
     exact za8 (by simp only [zeJ, Act.put, List.setIfInBounds_toArray, List.set_cons_zero, List.set_cons_succ]) (hCont (g1, g2) _ ⟨hHeld, (by (with_reducible repeat (first | refine zaw ?_ _ | refine zap ?_ | refine zai ?_ _)); exact BK1.out), (by (with_reducible repeat (first | refine zaw ?_ _ | refine zap ?_ | refine zai ?_ _)); exact BK2.out), GW1.out, GE1.out, NB21.out, NB12.out, GW2.out, GE2.out, (by repeat (first | (with_reducible first | exact HB.out | apply zac | apply zaa | apply zab | refine zag ?_ GE2.out | refine zag ?_ GE1.out) | exact HB.out))⟩)
   rintro ⟨g1, g2⟩ w11 ⟨hS_, h0_, h1_, h2_, h3_, h4_, h5_, h6_, h7_, h8_⟩
   have n0_ : Aside0 (w11.heap[g1]? = some (.cells #[.string (⟨#[]⟩ : ByteArray), .slice none 0 0, .slice none 0 0, .slice none 0 0, .slice none 0 0] 72 (0, 0))) := ⟨h0_⟩
   have n1_ : Aside0 (w11.heap[g2]? = some (.cells #[.string (⟨#[]⟩ : ByteArray), .slice none 0 0, .slice none 0 0, .slice none 0 0, .slice none 0 0] 72 (0, 0))) := ⟨h1_⟩
   have n2_ : Aside0 (w.heap.size ≤ g1) := ⟨h2_⟩
   have n3_ : Aside0 (w.heap.size ≤ g1) := ⟨h3_⟩
   have n4_ : Aside0 (g2 ≠ g1) := ⟨h4_⟩
   have n5_ : Aside0 (g1 ≠ g2) := ⟨h5_⟩
   have n6_ : Aside0 (w.heap.size ≤ g2) := ⟨h6_⟩
   have n7_ : Aside0 (w.heap.size ≤ g2) := ⟨h7_⟩
   have n8_ : Aside0 (Below w.heap.size w w11) := ⟨h8_⟩
   clear HB
   clear h0_ h1_ h2_ h3_ h4_ h5_ h6_ h7_ h8_
   have BK1 := n0_
   have BK2 := n1_
   have GW1 := n2_
   have GE1 := n3_
   have NB21 := n4_
   have NB12 := n5_
   have GW2 := n6_
   have GE2 := n7_
   have HB := n8_
   clear n0_ n1_ n2_ n3_ n4_ n5_ n6_ n7_ n8_
   have hHeld : smC aa ab P1 p1 P2 p2 P3 p3 P4 p4 Q1 q1 Q2 q2 Q3 q3 Q4 q4 x i w11 := hS_
   refine za8 (a' := ?_) ?_ ?_
   rotate_left
   ·simp only [zeJ, Act.put, List.setIfInBounds_toArray, List.set_cons_zero, List.set_cons_succ]
    rfl
   refine one_ (i := 10) (N := none) #[true, true, true, true, true, true, true, true, true, true, true, false] rfl rfl (zhq HT_.out (by kernel_rfl)) (by decide) (fun K hK => ?_)
   have hs12 : w11.cell? ⟨g1, 0, none⟩ = some (.string (⟨#[]⟩ : ByteArray)) := (zad BK1.out 0).trans rfl
   have hfs12 := zaf BK1.out 0
   have hns12_1 := NB21.out
   have hms12_1 := NB12.out
   have hs13 : w11.cell? ⟨g1, 1, none⟩ = some (.slice none 0 0) := (zad BK1.out 1).trans rfl
   have hfs13 := zaf BK1.out 1
   have hns13_1 := NB21.out
   have hms13_1 := NB12.out
   have hs14 : w11.cell? ⟨g1, 2, none⟩ = some (.slice none 0 0) := (zad BK1.out 2).trans rfl
   have hfs14 := zaf BK1.out 2
   have hns14_1 := NB21.out
   have hms14_1 := NB12.out
   have hs15 : w11.cell? ⟨g1, 3, none⟩ = some (.slice none 0 0) := (zad BK1.out 3).trans rfl
   have hfs15 := zaf BK1.out 3
   have hns15_1 := NB21.out
   have hms15_1 := NB12.out
   have hs16 : w11.cell? ⟨g1, 4, none⟩ = some (.slice none 0 0) := (zad BK1.out 4).trans rfl
   have hfs16 := zaf BK1.out 4
   have hns16_1 := NB21.out
   have hms16_1 := NB12.out
   refine zhW (w1 := ?_) (by rfl) rfl ?_ ?_
   rotate_left
   ·go_simp
    rfl
   refine hK.out _ _ (KC.out _ (by repeat (first | (with_reducible first | exact HB.out | apply zac | apply zaa | apply zab | refine zag ?_ GE1.out | refine zag ?_ GE2.out) | exact HB.out))) (fun hHeld => ?_)
   clear hK K
   refine one_ (i := 11) (N := none) #[true, true, true, true, true, true, true, true, true, true, true, true] rfl rfl (zhq HT_.out (by kernel_rfl)) (by decide) (fun K hK => ?_)
   have hs17 : w11.cell? ⟨g2, 0, none⟩ = some (.string (⟨#[]⟩ : ByteArray)) := (zad BK2.out 0).trans rfl
   have hfs17 := zaf BK2.out 0
   have hns17_0 := NB12.out
   have hms17_0 := NB21.out
   have hs18 : w11.cell? ⟨g2, 1, none⟩ = some (.slice none 0 0) := (zad BK2.out 1).trans rfl
   have hfs18 := zaf BK2.out 1
   have hns18_0 := NB12.out
   have hms18_0 := NB21.out
   have hs19 : w11.cell? ⟨g2, 2, none⟩ = some (.slice none 0 0) := (zad BK2.out 2).trans rfl
   have hfs19 := zaf BK2.out 2
   have hns19_0 := NB12.out
   have hms19_0 := NB21.out
   have hs20 : w11.cell? ⟨g2, 3, none⟩ = some (.slice none 0 0) := (zad BK2.out 3).trans rfl
   have hfs20 := zaf BK2.out 3
   have hns20_0 := NB12.out
   have hms20_0 := NB21.out
   have hs21 : w11.cell? ⟨g2, 4, none⟩ = some (.slice none 0 0) := (zad BK2.out 4).trans rfl
   have hfs21 := zaf BK2.out 4
   have hns21_0 := NB12.out
   have hms21_0 := NB21.out
   refine zhW (w1 := ?_) (by rfl) rfl ?_ ?_
   rotate_left
   ·go_simp
    rfl
   refine hK.out _ _ (KC.out _ (by repeat (first | (with_reducible first | exact HB.out | apply zac | apply zaa | apply zab | refine zag ?_ GE1.out | refine zag ?_ GE2.out) | exact HB.out))) (fun hHeld => ?_)
   clear hK K
   refine zc8 (zkT HT_.out (by kernel_rfl)) ?_
   have hb5 : Below w.heap.size w ((((((((((w11.setCell ⟨g1, 0, none⟩ (Value.string x.f0)).setCell ⟨g1, 1, none⟩ (Value.slice P1 x.f1.length p1)).setCell ⟨g1, 2, none⟩ (Value.slice P2 x.f2.length p2)).setCell ⟨g1, 3, none⟩ (Value.slice P3 x.f3.length p3)).setCell ⟨g1, 4, none⟩ (Value.slice P4 x.f4.length p4)).setCell ⟨g2, 0, none⟩ (Value.string x.f0)).setCell ⟨g2, 1, none⟩ (Value.slice Q1 x.f1.length q1)).setCell ⟨g2, 2, none⟩ (Value.slice Q2 x.f2.length q2)).setCell ⟨g2, 3, none⟩ (Value.slice Q3 x.f3.length q3)).setCell ⟨g2, 4, none⟩ (Value.slice Q4 x.f4.length q4)) := zkm _ _ _ _ _ (zkm _ _ _ _ _ HB.out GE1.out) GE2.out
   have hG1 : (((((((((((w11.setCell ⟨g1, 0, none⟩ (Value.string x.f0)).setCell ⟨g1, 1, none⟩ (Value.slice P1 x.f1.length p1)).setCell ⟨g1, 2, none⟩ (Value.slice P2 x.f2.length p2)).setCell ⟨g1, 3, none⟩ (Value.slice P3 x.f3.length p3)).setCell ⟨g1, 4, none⟩ (Value.slice P4 x.f4.length p4)).setCell ⟨g2, 0, none⟩ (Value.string x.f0)).setCell ⟨g2, 1, none⟩ (Value.slice Q1 x.f1.length q1)).setCell ⟨g2, 2, none⟩ (Value.slice Q2 x.f2.length q2)).setCell ⟨g2, 3, none⟩ (Value.slice Q3 x.f3.length q3)).setCell ⟨g2, 4, none⟩ (Value.slice Q4 x.f4.length q4))).heap[g1]? = some (.cells #[Value.string x.f0, Value.slice P1 x.f1.length p1, Value.slice P2 x.f2.length p2, Value.slice P3 x.f3.length p3, Value.slice P4 x.f4.length p4] 72 (0, 0)) := far5 _ _ _ _ _ (put5 BK1.out) NB12.out
   have hG2 : (((((((((((w11.setCell ⟨g1, 0, none⟩ (Value.string x.f0)).setCell ⟨g1, 1, none⟩ (Value.slice P1 x.f1.length p1)).setCell ⟨g1, 2, none⟩ (Value.slice P2 x.f2.length p2)).setCell ⟨g1, 3, none⟩ (Value.slice P3 x.f3.length p3)).setCell ⟨g1, 4, none⟩ (Value.slice P4 x.f4.length p4)).setCell ⟨g2, 0, none⟩ (Value.string x.f0)).setCell ⟨g2, 1, none⟩ (Value.slice Q1 x.f1.length q1)).setCell ⟨g2, 2, none⟩ (Value.slice Q2 x.f2.length q2)).setCell ⟨g2, 3, none⟩ (Value.slice Q3 x.f3.length q3)).setCell ⟨g2, 4, none⟩ (Value.slice Q4 x.f4.length q4))).heap[g2]? = some (.cells #[Value.string x.f0, Value.slice Q1 x.f1.length q1, Value.slice Q2 x.f2.length q2, Value.slice Q3 x.f3.length q3, Value.slice Q4 x.f4.length q4] 72 (0, 0)) := put5 (far5 _ _ _ _ _ BK2.out NB21.out)
   generalize ((((((((((w11.setCell ⟨g1, 0, none⟩ (Value.string x.f0)).setCell ⟨g1, 1, none⟩ (Value.slice P1 x.f1.length p1)).setCell ⟨g1, 2, none⟩ (Value.slice P2 x.f2.length p2)).setCell ⟨g1, 3, none⟩ (Value.slice P3 x.f3.length p3)).setCell ⟨g1, 4, none⟩ (Value.slice P4 x.f4.length p4)).setCell ⟨g2, 0, none⟩ (Value.string x.f0)).setCell ⟨g2, 1, none⟩ (Value.slice Q1 x.f1.length q1)).setCell ⟨g2, 2, none⟩ (Value.slice Q2 x.f2.length q2)).setCell ⟨g2, 3, none⟩ (Value.slice Q3 x.f3.length q3)).setCell ⟨g2, 4, none⟩ (Value.slice Q4 x.f4.length q4)) = W5 at *
   have HB5 := Aside0.mk hb5
   have HG1 := Aside0.mk hG1
   have HG2 := Aside0.mk hG2
   have KG : Aside0 (∀ W, Below W5.heap.size W5 W → smG g1 g2 P1 p1 P2 p2 P3 p3 P4 p4 Q1 q1 Q2 q2 Q3 q3 Q4 q4 x W) := ⟨fun W hW => by
    have h1 := (hW.block _ (zah hG1)).trans hG1
    have h2 := (hW.block _ (zah hG2)).trans hG2
    exact ⟨(zad h1 0).trans rfl, (zad h1 1).trans rfl, (zad h1 2).trans rfl, (zad h1 3).trans rfl, (zad h1 4).trans rfl, (zad h2 0).trans rfl, (zad h2 1).trans rfl, (zad h2 2).trans rfl, (zad h2 3).trans rfl, (zad h2 4).trans rfl⟩⟩
   clear hb5 hG1 hG2 HB BK1 BK2 NB12 NB21 GW1 GW2 GE1 GE2 hHeld KC
   obtain ⟨s0, s1, s2, s3, s4, t0, t1, t2, t3, t4⟩ := KG.out W5 (Below.refl _ _)
   have f0 : (x.f0.toList == x.f0.toList) = true := beq_self_eq_true _
   have f0' : (x.f0.toList != x.f0.toList) = false := by rw [bne, f0]; rfl
   have f1 : ((x.f1.length : Int) == (x.f1.length : Int)) = true := beq_self_eq_true _
   have f1' : ((x.f1.length : Int) != (x.f1.length : Int)) = false := by rw [bne, f1]; rfl
   have f2 : ((x.f2.length : Int) == (x.f2.length : Int)) = true := beq_self_eq_true _
   have f2' : ((x.f2.length : Int) != (x.f2.length : Int)) = false := by rw [bne, f2]; rfl
   have f3 : ((x.f3.length : Int) == (x.f3.length : Int)) = true := beq_self_eq_true _
   have f3' : ((x.f3.length : Int) != (x.f3.length : Int)) = false := by rw [bne, f3]; rfl
   go_wp2_with (go_at_call 38; refine (HI.out _ HB5.out).mono ?_; rintro e w6 ⟨rfl, hb6⟩; have HB6 := Aside0.mk (below_step HB5.out hb6); have HK6 := Aside0.mk hb6; clear hb6)
   clear f0 f0' f1 f1' f2 f2' f3 f3' s0 s1 s2 s3 s4 t0 t1 t2 t3 t4
   have hm1 := HC1.out.2.1
   have hm2 := HC2.out.2.1
   have hm3 := HC3.out.2.1
   go_loopg [8] x.f1.length (fun gk v8 wx => ∃ (j : Nat), j + gk = x.f1.length ∧ v8 = .int .i64 j ∧ Aside0 (Below W5.heap.size W5 wx))
   case atStart => exact ⟨0, by omega, rfl, HK6⟩
   case round =>
    clear HK6 HB6
    obtain ⟨j, hj, rfl, HK⟩ := hrel
    obtain ⟨s0, s1, s2, s3, s4, t0, t1, t2, t3, t4⟩ := KG.out wr HK.out
    cases gk with
    | succ gj =>
     have hjj : (j : Int) < (x.f1.length : Int) := by omega
     have hj0 : (0 : Int) ≤ (j : Int) := by omega
     have HBr := Aside0.mk (below_step HB5.out HK.out)
     obtain ⟨ac, hac, u0, u1, u2, u3, u4⟩ := za6 HC1.out (j : Int) hj0 hjj
     cases hac
     obtain ⟨ad, had, v0, v1, v2, v3, v4⟩ := za6 HD1.out (j : Int) hj0 hjj
     cases had
     rw [Int.toNat_natCast] at u0 u1 u2 u3 u4 v0 v1 v2 v3 v4
     generalize rd_T78 x.f1 (j : Int) = y at *
     replace u0 := (HBr.out.cell (World.block_lt_of_cell? w _ u0)).trans u0
     replace u1 := (HBr.out.cell (World.block_lt_of_cell? w _ u1)).trans u1
     replace u2 := (HBr.out.cell (World.block_lt_of_cell? w _ u2)).trans u2
     replace u3 := (HBr.out.cell (World.block_lt_of_cell? w _ u3)).trans u3
     replace u4 := (HBr.out.cell (World.block_lt_of_cell? w _ u4)).trans u4
     replace v0 := (HBr.out.cell (World.block_lt_of_cell? w _ v0)).trans v0
     replace v1 := (HBr.out.cell (World.block_lt_of_cell? w _ v1)).trans v1
     replace v2 := (HBr.out.cell (World.block_lt_of_cell? w _ v2)).trans v2
     replace v3 := (HBr.out.cell (World.block_lt_of_cell? w _ v3)).trans v3
     replace v4 := (HBr.out.cell (World.block_lt_of_cell? w _ v4)).trans v4
     have g0 : (y.f0.toList == y.f0.toList && (y.f1 == y.f1 && (y.f2 == y.f2 && (y.f3 == y.f3 && (y.f4 == y.f4))))) = true := by simp
     go_wp2
     go_quiet (fail)
     go_wp2
     go_roundg gj
     case measure => omega
     case rel => exact ⟨j + 1, by omega, za3 (by omega), ⟨by repeat (first | (with_reducible first | exact HK.out | apply zaa | apply zab) | exact HK.out)⟩⟩
    | zero =>
     have hjj : ¬ (j : Int) < (x.f1.length : Int) := by omega
     go_wp2
     clear s0 s1 s2 s3 s4 t0 t1 t2 t3 t4 hjj hj
     go_loopg [9] x.f2.length (fun gk v9 wx => ∃ (j : Nat), j + gk = x.f2.length ∧ v9 = .int .i64 j ∧ Aside0 (Below W5.heap.size W5 wx))
     case atStart => exact ⟨0, by omega, rfl, ⟨by repeat (first | (with_reducible first | exact HK.out | apply zaa | apply zab) | exact HK.out)⟩⟩
     case round =>
      clear HK
      obtain ⟨j2, hj2, rfl, HK2⟩ := hrel
      obtain ⟨s0, s1, s2, s3, s4, t0, t1, t2, t3, t4⟩ := KG.out wr HK2.out
      cases gk with
      | succ gj2 =>
       have hjj : (j2 : Int) < (x.f2.length : Int) := by omega
       have hj0 : (0 : Int) ≤ (j2 : Int) := by omega
       have HBr := Aside0.mk (below_step HB5.out HK2.out)
       obtain ⟨ac, Ac, cc, hac, u0, hcc, hCc⟩ := zcJ HC2.out (j2 : Int) hj0 hjj
       cases hac
       obtain ⟨ad, Ad, cd, had, v0, hcd, hCd⟩ := zcJ HD2.out (j2 : Int) hj0 hjj
       cases had
       rw [Int.toNat_natCast] at u0 v0
       generalize rd_L6 x.f2 (j2 : Int) = y at *
       have HN : Aside0 (∀ W, Below w.heap.size w W → Calls Tryz.prog 38 #[.slice Ac y.length cc, .slice Ad y.length cd] W fun e w' => e = .returned (.bool true) ∧ Below W.heap.size W w') := ⟨fun W hW => zbY Ac cc Ad cd y W (Kd.C_below hCc hW) hcc (Kd.C_below hCd hW) hcd⟩
       have KS : ∀ W, Below wr.heap.size wr W → W.cell? ⟨g1, 2, none⟩ = some (.slice (some ac) x.f2.length p2) ∧ W.cell? (ac.add j2) = some (.slice Ac y.length cc) ∧ W.cell? ⟨g2, 2, none⟩ = some (.slice (some ad) x.f2.length q2) ∧ W.cell? (ad.add j2) = some (.slice Ad y.length cd) := fun W hW =>
        have hb := below_step HBr.out hW
        ⟨(hW.cell (World.block_lt_of_cell? wr _ s2)).trans s2, (hb.cell (World.block_lt_of_cell? w _ u0)).trans u0, (hW.cell (World.block_lt_of_cell? wr _ t2)).trans t2, (hb.cell (World.block_lt_of_cell? w _ v0)).trans v0⟩
       clear u0 v0 hCc hCd
       go_wp2
       go_region_held3 (fun W => W.cell? ⟨g1, 2, none⟩ = some (.slice (some ac) x.f2.length p2) ∧ W.cell? (ac.add j2) = some (.slice Ac y.length cc) ∧ W.cell? ⟨g2, 2, none⟩ = some (.slice (some ad) x.f2.length q2) ∧ W.cell? (ad.add j2) = some (.slice Ad y.length cd)) (first | exact KS _ (zab (Below.refl _ _)) | exact KS _ (below_step (zab (Below.refl _ _)) hb1)) ((go_at_call 38; refine (HN.out _ (zab HBr.out)).mono ?_; rintro e w7 ⟨rfl, hb1⟩))
       have HK3 := Aside0.mk (below_step (zab HK2.out) hb1)
       clear hb1 KS
       go_wp2
       go_roundg gj2
       case measure => omega
       case rel => exact ⟨j2 + 1, by omega, za3 (by omega), HK3⟩
      | zero =>
       have hjj : ¬ (j2 : Int) < (x.f2.length : Int) := by omega
       go_wp2
       clear s0 s1 s2 s3 s4 t0 t1 t2 t3 t4 hjj hj2
       go_loopg [10] x.f3.length (fun gk v10 wx => ∃ (j : Nat), j + gk = x.f3.length ∧ v10 = .int .i64 j ∧ Aside0 (Below W5.heap.size W5 wx))
       case atStart => exact ⟨0, by omega, rfl, ⟨by repeat (first | (with_reducible first | exact HK2.out | apply zaa | apply zab) | exact HK2.out)⟩⟩
       case round =>
        clear HK2
        obtain ⟨j3, hj3, rfl, HK3⟩ := hrel
        obtain ⟨s0, s1, s2, s3, s4, t0, t1, t2, t3, t4⟩ := KG.out wr HK3.out
        cases gk with
        | succ gj3 =>
         have hjj : (j3 : Int) < (x.f3.length : Int) := by omega
         have hj0 : (0 : Int) ≤ (j3 : Int) := by omega
         have HBr := Aside0.mk (below_step HB5.out HK3.out)
         obtain ⟨ac, Ac, cc, hac, u0, u1, u2, hcc, hCc⟩ := zdD HC3.out (j3 : Int) hj0 hjj
         cases hac
         obtain ⟨ad, Ad, cd, had, v0, v1, v2, hcd, hCd⟩ := zdD HD3.out (j3 : Int) hj0 hjj
         cases had
         rw [Int.toNat_natCast] at u0 u1 u2 v0 v1 v2
         generalize rd_T75 x.f3 (j3 : Int) = y at *
         have HN : Aside0 (∀ W, Below w.heap.size w W → Calls Tryz.prog 38 #[.slice Ac y.f0.length cc, .slice Ad y.f0.length cd] W fun e w' => e = .returned (.bool true) ∧ Below W.heap.size W w') := ⟨fun W hW => zbY Ac cc Ad cd y.f0 W (Kd.C_below hCc hW) hcc (Kd.C_below hCd hW) hcd⟩
         replace u0 := (HBr.out.cell (World.block_lt_of_cell? w _ u0)).trans u0
         replace u1 := (HBr.out.cell (World.block_lt_of_cell? w _ u1)).trans u1
         replace u2 := (HBr.out.cell (World.block_lt_of_cell? w _ u2)).trans u2
         replace v0 := (HBr.out.cell (World.block_lt_of_cell? w _ v0)).trans v0
         replace v1 := (HBr.out.cell (World.block_lt_of_cell? w _ v1)).trans v1
         replace v2 := (HBr.out.cell (World.block_lt_of_cell? w _ v2)).trans v2
         have f1 : (y.f1 == y.f1) = true := beq_self_eq_true _
         have f1' : (y.f1 != y.f1) = false := by rw [bne, f1]; rfl
         have f2 : (y.f2 == y.f2) = true := beq_self_eq_true _
         have f2' : (y.f2 != y.f2) = false := by rw [bne, f2]; rfl
         clear hCc hCd
         have KS : ∀ W, Below wr.heap.size wr W → W.cell? ⟨g1, 3, none⟩ = some (.slice (some ac) x.f3.length p3) ∧ W.cell? ⟨g2, 3, none⟩ = some (.slice (some ad) x.f3.length q3) ∧ W.cell? (ac.add (j3 * 3)) = some (.slice Ac y.f0.length cc) ∧ W.cell? ⟨(ac.add (j3 * 3)).block, (ac.add (j3 * 3)).off + 1, none⟩ = some (.int .i64 y.f1) ∧ W.cell? ⟨(ac.add (j3 * 3)).block, (ac.add (j3 * 3)).off + 2, none⟩ = some (.int .i64 y.f2) ∧ W.cell? (ad.add (j3 * 3)) = some (.slice Ad y.f0.length cd) ∧ W.cell? ⟨(ad.add (j3 * 3)).block, (ad.add (j3 * 3)).off + 1, none⟩ = some (.int .i64 y.f1) ∧ W.cell? ⟨(ad.add (j3 * 3)).block, (ad.add (j3 * 3)).off + 2, none⟩ = some (.int .i64 y.f2) := fun W hW =>
          ⟨(hW.cell (World.block_lt_of_cell? wr _ s3)).trans s3, (hW.cell (World.block_lt_of_cell? wr _ t3)).trans t3, (hW.cell (World.block_lt_of_cell? wr _ u0)).trans u0, (hW.cell (World.block_lt_of_cell? wr _ u1)).trans u1, (hW.cell (World.block_lt_of_cell? wr _ u2)).trans u2, (hW.cell (World.block_lt_of_cell? wr _ v0)).trans v0, (hW.cell (World.block_lt_of_cell? wr _ v1)).trans v1, (hW.cell (World.block_lt_of_cell? wr _ v2)).trans v2⟩
         clear u0 u1 u2 v0 v1 v2
         go_wp2
         go_region_held3 (fun W => W.cell? ⟨g1, 3, none⟩ = some (.slice (some ac) x.f3.length p3) ∧ W.cell? ⟨g2, 3, none⟩ = some (.slice (some ad) x.f3.length q3) ∧ W.cell? (ac.add (j3 * 3)) = some (.slice Ac y.f0.length cc) ∧ W.cell? ⟨(ac.add (j3 * 3)).block, (ac.add (j3 * 3)).off + 1, none⟩ = some (.int .i64 y.f1) ∧ W.cell? ⟨(ac.add (j3 * 3)).block, (ac.add (j3 * 3)).off + 2, none⟩ = some (.int .i64 y.f2) ∧ W.cell? (ad.add (j3 * 3)) = some (.slice Ad y.f0.length cd) ∧ W.cell? ⟨(ad.add (j3 * 3)).block, (ad.add (j3 * 3)).off + 1, none⟩ = some (.int .i64 y.f1) ∧ W.cell? ⟨(ad.add (j3 * 3)).block, (ad.add (j3 * 3)).off + 2, none⟩ = some (.int .i64 y.f2)) (first | exact KS _ (zab (Below.refl _ _)) | exact KS _ (below_step (zab (Below.refl _ _)) hb1)) ((go_at_call 38; refine (HN.out _ (zab HBr.out)).mono ?_; rintro e w7 ⟨rfl, hb1⟩))
         have HK4 := Aside0.mk (below_step (zab HK3.out) hb1)
         clear hb1 KS
         go_wp2
         go_roundg gj3
         case measure => omega
         case rel => exact ⟨j3 + 1, by omega, za3 (by omega), HK4⟩
        | zero =>
         have hjj : ¬ (j3 : Int) < (x.f3.length : Int) := by omega
         go_wp2
         go_roundg gi
         case measure => omega
         case rel => exact ⟨i + 1, by omega, za3 (by omega), ⟨below_step HB5.out (by repeat (first | (with_reducible first | exact HK3.out | apply zaa | apply zab) | exact HK3.out))⟩⟩
end Go.Proofs.YthgfdnffnbclpaaGreatDoor.PAll
namespace Go.Proofs.YthgfdnffnbclpaaGreatDoor.PAll
open Go.RowKit Go.Proofs.YthgfdnffnbclpaaGreatDoorW.PrintWords Go.Proofs.YthgfdnffnbclpaaGreatDoorW.PrintLast Go.Proofs.YthgfdnffnbclpaaGreatDoorW.PrintMore
set_option maxHeartbeats 4000000 in
set_option maxRecDepth 100000 in
theorem zeq (A0 : Option Addr) (c0 : Nat) (a : List Int) (A1 : Option Addr) (c1 : Nat) (b : List Int) (w : World) (hA : Kd.C (Kd.int .i64) w A0 a.length a) (hc0 : a.length ≤ c0) (hB : Kd.C (Kd.int .i64) w A1 b.length b) (hc1 : b.length ≤ c1) :
  Calls Tryz.prog 38 #[.slice A0 a.length c0, .slice A1 b.length c1] w fun e w' => e = .returned (.bool (eqI a b)) ∧ Below w.heap.size w w' := by
 have HA := Aside0.mk hA
 have HB := Aside0.mk hB
 have hlen := hA.2.1
 clear hA hB
 unfold eqI
 by_cases hl : a.length = b.length
 case neg =>
  have e1 : ((a.length : Int) == (b.length : Int)) = false := beq_eq_false_iff_ne.mpr (by omega)
  have e2 : ((a.length : Int) != (b.length : Int)) = true := by rw [bne, e1]; rfl
  have e3 : decide (a = b) = false := decide_eq_false (fun h => hl (by rw [h]))
  rw [e3]
  clear hl
  go_enter Tryz.func38, Tryz.ntmps38
  go_wp2
  go_ret
  exact ⟨rfl, Below.refl _ _⟩
 case pos =>
  have e1 : ((a.length : Int) == (b.length : Int)) = true := beq_iff_eq.mpr (by omega)
  have e2 : ((a.length : Int) != (b.length : Int)) = false := by rw [bne, e1]; rfl
  have HL := Aside0.mk hl
  clear hl
  go_enter Tryz.func38, Tryz.ntmps38
  go_wp2
  go_loopg [5] a.length (fun gk v5 wx => ∃ (i : Nat), i + gk = a.length ∧ v5 = .int .i64 i ∧ Aside0 (Below w.heap.size w wx) ∧ Aside0 (a.take i = b.take i))
  case atStart => exact ⟨0, by omega, rfl, ⟨Below.refl _ _⟩, ⟨rfl⟩⟩
  case round =>
   clear e1 e2
   obtain ⟨i, hi, rfl, HW, HP⟩ := hrel
   cases gk with
   | zero =>
    have hii : ¬ (i : Int) < (a.length : Int) := by omega
    have hp := HP.out
    rw [List.take_of_length_le (by omega), List.take_of_length_le (by have := HL.out; omega)] at hp
    have HE : Aside0 (decide (a = b) = true) := ⟨decide_eq_true hp⟩
    clear hp
    go_wp2
    go_ret
    exact ⟨by rw [HE.out]; rfl, HW.out⟩
   | succ gi =>
    have hlt : i < a.length := by omega
    have hlt2 : i < b.length := by have := HL.out; omega
    have hii : (i : Int) < (a.length : Int) := by omega
    have hib : (i : Int) < (b.length : Int) := by omega
    have hi0 : (0 : Int) ≤ (i : Int) := by omega
    obtain ⟨aa, haa, u0⟩ := Kd.at_int HA.out (i : Int) hi0 hii
    cases haa
    obtain ⟨ab, hab, v0⟩ := Kd.at_int HB.out (i : Int) hi0 hib
    cases hab
    rw [zfa hlt, Int.toNat_natCast] at u0
    rw [zfa hlt2, Int.toNat_natCast] at v0
    have HT : Aside0 (a.take (i + 1) = b.take (i + 1) ↔ a[i] = b[i]) := ⟨by
     rw [zay hlt, zay hlt2, HP.out]
     exact ⟨fun h => by have h2 := List.append_cancel_left h; injection h2, fun h => by rw [h]⟩⟩
    have HNE : Aside0 (a[i] ≠ b[i] → decide (a = b) = false) := ⟨fun h => decide_eq_false (fun e => h (by subst e; rfl))⟩
    generalize a[i] = x at *
    generalize b[i] = y at *
    replace u0 := (HW.out.cell (World.block_lt_of_cell? w _ u0)).trans u0
    replace v0 := (HW.out.cell (World.block_lt_of_cell? w _ v0)).trans v0
    have HBN : Aside0 (∀ nq, Below w.heap.size w (wr.drewN nq)) := ⟨fun nq => below_step HW.out (zaa (Below.refl _ _) nq)⟩
    by_cases q : x = y
    ·have e1 : (x == y) = true := beq_iff_eq.mpr q
     have e2 : (x != y) = false := by rw [bne, e1]; rfl
     have HT2 := Aside0.mk (HT.out.2 q)
     clear q HT HNE
     go_wp2
     go_quiet (fail)
     go_wp2
     have HW2 := Aside0.mk (HBN.out nq)
     go_roundg gi
     case measure => omega
     case rel => exact ⟨i + 1, by omega, by first | rfl | (simp; done) | (simp; unfold wrap64; omega), HW2, HT2⟩
    ·have e1 : (x == y) = false := beq_eq_false_iff_ne.mpr q
     have e2 : (x != y) = true := by rw [bne, e1]; rfl
     have HE := Aside0.mk (HNE.out q)
     clear q HT HNE
     go_wp2
     go_quiet (fail)
     go_wp2
     go_ret
     exact ⟨by rw [HE.out]; rfl, HBN.out _⟩
theorem put3 {W : World} {g t : Nat} {a b c : Value} (h : W.heap[g]? = some (.cells #[a, b, c] t (0, 0))) (a' b' c' : Value) :
  (((W.setCell ⟨g, 0, none⟩ a').setCell ⟨g, 1, none⟩ b').setCell ⟨g, 2, none⟩ c').heap[g]? = some (.cells #[a', b', c'] t (0, 0)) :=
 zas (zas (zas h 0 _ rfl) 1 _ rfl) 2 _ rfl
theorem zaH {W : World} {g t : Nat} {a b c : Value} (h : W.heap[g]? = some (.cells #[a, b, c] t (0, 0))) :
  W.cell? ⟨g, 0, none⟩ = some a ∧ W.cell? ⟨g, 1, none⟩ = some b ∧ W.cell? ⟨g, 2, none⟩ = some c ∧ (W.frozen? ⟨g, 0, none⟩ = false ∧ W.frozen? ⟨g, 1, none⟩ = false ∧ W.frozen? ⟨g, 2, none⟩ = false) :=
 ⟨(zad h 0).trans rfl, (zad h 1).trans rfl, (zad h 2).trans rfl, zaf h 0, zaf h 1, zaf h 2⟩
theorem zdM {B0 : Nat} {w W : World} {g : Nat} (h : Below B0 w W) (hg : B0 ≤ g) (a b c : Value) : Below B0 w (((W.setCell ⟨g, 0, none⟩ a).setCell ⟨g, 1, none⟩ b).setCell ⟨g, 2, none⟩ c) :=
 ((h.setCell (p := ⟨g, 0, none⟩) hg a).setCell (p := ⟨g, 1, none⟩) hg b).setCell (p := ⟨g, 2, none⟩) hg c
set_option maxRecDepth 100000 in
theorem zcz {w : World} {g : Nat} {a b c : Value} (hg : w.heap[g]? = some (.cells #[a, b, c] 75 (0, 0))) : (loadVar 75 ⟨g, 0, none⟩).run Tryz.prog w = .ok (.agg #[a, b, c]) w :=
 run_loadVar_row w g 75 75 #[a, b, c] (0, 0) _ hg Tryz.underlying75 rfl (by kernel_rfl)
theorem zdU (cols oc : List S78) (cs ns : List Int) : ∀ (l : List Int) (e : Int), e ≠ 0 → kindsE cols oc cs ns l e = e
 | [], e, _ => rfl
 | c :: r, e, h => by
  show kindsE cols oc cs ns r (askE e _ 79) = e
  have : askE e ((rd_T78 cols (rd cs (idxI c 0 ns))).f1 != (rd_T78 oc c).f1) 79 = e := if_neg h
  rw [this]
  exact zdU cols oc cs ns r e h
theorem ziJ {s : List S49} {cols : List S78} {rs : List S75} {d : S105} (h : findP d.f1 0 s < 0) : refS s cols rs d = (rs, 71) := by
 unfold refS; rw [if_pos h]
theorem zjK {s : List S49} {cols : List S78} {rs : List S75} {d : S105} {e : Int} (h : ¬ findP d.f1 0 s < 0) (he : refE (colsN cols d.f0) (colsN (rd_T49 s (findP d.f1 0 s)).f1 d.f2) d = e) (h0 : e ≠ 0) : refS s cols rs d = (rs, e) := by
 unfold refS; rw [if_neg h, if_neg (by rw [he]; exact h0), he]
theorem zcY (cs ns : List Int) (d : S105) : refE cs ns d = if -1 ∈ cs then 71 else if distP [] d.f0 = false then 70 else if d.f0.length ≠ d.f2.length then 78 else if -1 ∈ ns then 71 else if distP [] d.f2 = false then 71 else 0 := by
 unfold refE
 by_cases h1 : -1 ∈ cs
 ·rw [if_pos h1, decide_eq_true h1]; simp [askE]
 rw [if_neg h1, decide_eq_false h1]
 cases h2 : distP [] d.f0
 ·simp [askE]
 by_cases h3 : d.f0.length = d.f2.length
 ·have e3 : ((d.f0.length : Int) != (d.f2.length : Int)) = false := by rw [h3]; simp
  rw [e3]
  by_cases h4 : -1 ∈ ns
  ·rw [decide_eq_true h4]; simp [askE, h3, h4]
  ·rw [decide_eq_false h4]
   cases h5 : distP [] d.f2 <;> simp [askE, h3, h4]
 ·have e3 : ((d.f0.length : Int) != (d.f2.length : Int)) = true := by rw [bne, beq_eq_false_iff_ne.mpr (by omega)]; rfl
  rw [e3]
  simp [askE, h3]
theorem zkP (s : List S49) (cols : List S78) (rs : List S75) (d : S105) : refS s cols rs d = (rs ++ (refS s cols [] d).1, (refS s cols [] d).2) := by
 unfold refS
 repeat' split
 all_goals simp
theorem zcj : ∀ (l : List Int) (i j : Nat) (hj : j < l.length), l.Nodup → idxI l[j] i l = ((i + j : Nat) : Int)
 | x :: r, i, 0, _, _ => by rw [idxI]; simp
 | x :: r, i, j + 1, hj, h => by
  rw [List.nodup_cons] at h
  have hj2 : j < r.length := by simpa using hj
  have e : (x :: r)[j + 1] = r[j] := rfl
  rw [e, idxI, if_neg (fun he => h.1 (by rw [he]; exact List.getElem_mem hj2)), zcj r (i + 1) j hj2 h.2]
  omega
theorem zha {l : List Int} (h : l.Nodup) {c : Int} (hc : c ∈ l) {j : Nat} (hj : j < l.length) : l[j] = c ↔ (idxI c 0 l).toNat = j := by
 obtain ⟨m, hm, rfl⟩ := List.getElem_of_mem hc
 rw [zcj l 0 m hm h]
 constructor
 ·intro e
  have h1 := zcj l 0 j hj h
  have h2 := zcj l 0 m hm h
  rw [e] at h1
  omega
 ·intro e
  have : m = j := by omega
  subst this; rfl
def midI (cs ns : List Int) (c : Int) (pre : List Int) (j : Nat) : List Int := if (idxI c 0 ns).toNat < j then pre ++ [rd cs (idxI c 0 ns)] else pre
theorem ziS (cs ns : List Int) (c : Int) (pre : List Int) : midI cs ns c pre 0 = pre := if_neg (by omega)
theorem zjL {cs ns : List Int} {c : Int} (h : c ∈ ns) (pre : List Int) : midI cs ns c pre ns.length = pre ++ [rd cs (idxI c 0 ns)] := if_pos (by have := zcK h; omega)
theorem zkb {cs ns : List Int} (hn : ns.Nodup) {c : Int} (h : c ∈ ns) (pre : List Int) {j : Nat} (hj : j < ns.length) (e : ns[j] = c) : midI cs ns c pre j = pre ∧ midI cs ns c pre (j + 1) = pre ++ [rd cs (j : Int)] := by
 have h1 := (zha hn h hj).1 e
 have h2 := zcK h
 unfold midI
 rw [if_neg (by omega), if_pos (by omega), show idxI c 0 ns = (j : Int) by omega]
 exact ⟨rfl, rfl⟩
theorem zjk {cs ns : List Int} (hn : ns.Nodup) {c : Int} (h : c ∈ ns) (pre : List Int) {j : Nat} (hj : j < ns.length) (e : ns[j] ≠ c) : midI cs ns c pre (j + 1) = midI cs ns c pre j := by
 have h1 : (idxI c 0 ns).toNat ≠ j := fun q => e ((zha hn h hj).2 q)
 unfold midI
 by_cases q : (idxI c 0 ns).toNat < j
 ·rw [if_pos q, if_pos (by omega)]
 ·rw [if_neg q, if_neg (by omega)]
theorem zjJ (cs ns : List Int) (c : Int) (pre : List Int) (j : Nat) : (midI cs ns c pre j).length ≤ pre.length + 1 := by
 unfold midI
 split <;> simp
end Go.Proofs.YthgfdnffnbclpaaGreatDoor.PAll
