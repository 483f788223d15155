import Derived.Test.YthgfdnffnbclpaaGreatDoorSQC24
set_option linter.unusedVariables false
set_option linter.unusedSimpArgs false
namespace Go.Proofs.YthgfdnffnbclpaaGreatDoor.PAll
open Go.RowKit Go.Proofs.YthgfdnffnbclpaaGreatDoorW.PrintWords Go.Proofs.YthgfdnffnbclpaaGreatDoorW.PrintLast Go.Proofs.YthgfdnffnbclpaaGreatDoorW.PrintMore
set_option maxHeartbeats 4000000 in
set_option maxRecDepth 100000 in
theorem zfR (A0 : Option Addr) (c0 : Nat) (s : List S49) (tn : ByteArray) (A1 : Option Addr) (c1 : Nat) (cols : List S78) (A2 : Option Addr) (n2 c2 : Nat) (A3 : Option Addr) (n3 c3 : Nat) (A4 : Option Addr) (n4 c4 : Nat) (Ad : Option Addr) (cd : Nat) (Ae : Option Addr) (ce : Nat) (d : S105) (w : World)
  (hS : Kd.C k49 w A0 s.length s) (hc0 : s.length ≤ c0) (hv : za5 s = some true) (hC : Kd.C k78 w A1 cols.length cols) (hc1 : cols.length ≤ c1)
  (hD0 : Kd.C Kd.string w Ad d.f0.length d.f0) (hcd : d.f0.length ≤ cd) (hD2 : Kd.C Kd.string w Ae d.f2.length d.f2) (hce : d.f2.length ≤ ce) (hb0 : d.f0.length ≤ 2000000) (hb2 : d.f2.length ≤ 2000000) :
  Calls Tryz.prog 51 #[.slice A0 s.length c0, .agg #[.string tn, .slice A1 cols.length c1, .slice A2 n2 c2, .slice A3 n3 c3, .slice A4 n4 c4], .agg #[.slice Ad d.f0.length cd, .string d.f1, .slice Ae d.f2.length ce]] w fun e w' => ∃ (T0 : Option Addr) (t0 u0 : Nat) (n k : Int), e = .returned (.tuple #[.agg #[.slice T0 t0 u0, .int .i64 n, .int .i64 k], .int .i64 (refS s cols [] d).2]) ∧
   ((refS s cols [] d).2 = 0 → ∃ r : S75, (refS s cols [] d).1 = [r] ∧ n = r.f1 ∧ k = r.f2 ∧ (Kd.int .i64).R 3 w' w.heap.size (fun _ => True) (.slice T0 t0 u0) r.f0) ∧ Below w.heap.size w w' := by
 have HS := Aside0.mk (fun W (hW : Below w.heap.size w W) => Kd.C_below hS hW)
 have HV := Aside0.mk hv
 have HC := Aside0.mk (fun W (hW : Below w.heap.size w W) => Kd.C_below hC hW)
 have HD0 := Aside0.mk (fun W (hW : Below w.heap.size w W) => Kd.C_below hD0 hW)
 have HD2 := Aside0.mk (fun W (hW : Below w.heap.size w W) => Kd.C_below hD2 hW)
 have l0 := hD0.2.1
 have l2 := hD2.2.1
 obtain ⟨f1, f2⟩ := ziX d.f1 s 0
 have HF : Aside0 (∀ W, Below w.heap.size w W → Calls Tryz.prog 31 #[.slice A0 s.length c0, .string d.f1] W fun e w' => e = .returned (.tuple #[.int .i64 (if findP d.f1 0 s < 0 then 0 else findP d.f1 0 s), .bool (decide (0 ≤ findP d.f1 0 s))]) ∧ Below W.heap.size W w') := ⟨fun W hW => zdg A0 c0 s d.f1 _ _ W (Kd.C_below hS hW) hc0 (by
  unfold zdu
  rw [hv, Option.bind_some, if_pos rfl]
  by_cases q : 0 ≤ findP d.f1 0 s
  ·rw [f1 q, if_neg (by omega), decide_eq_true q]
  ·rw [f2 q, if_pos (by omega), decide_eq_false q])⟩
 generalize hRS : refS s cols [] d = RS at *
 have HRS := Aside0.mk hRS
 obtain ⟨B, hB⟩ : ∃ B, B = w.heap.size := ⟨_, rfl⟩
 have hB0 : w.heap.size ≤ B + 1 + 1 := by omega
 clear hS hv hC hD0 hD2 f1 f2 hRS
 go_enter Tryz.func51, Tryz.ntmps51
 go_upto_region 1 with fail
 generalize hW : World.alloc _ _ = W0
 obtain ⟨b0, b1, b2, hbw⟩ := zjp w hW
 clear hW
 rw [← hB] at b0 b1 b2 ⊢
 have HBW := Aside0.mk hbw
 have HK : Aside0 (∀ W, Below W0.heap.size W0 W → W.heap[B]? = some (.cells #[.string tn, .slice A1 cols.length c1, .slice A2 n2 c2, .slice A3 n3 c3, .slice A4 n4 c4] 72 (0, 0)) ∧ W.heap[B + 1]? = some (.cells #[.slice Ad d.f0.length cd, .string d.f1, .slice Ae d.f2.length ce] 105 (0, 0)) ∧ W.heap[B + 1 + 1]? = some (.cells #[.slice none 0 0, .int .i64 0, .int .i64 0] 75 (0, 0))) := ⟨fun W hW => ⟨(hW.block _ (zah b0)).trans b0, (hW.block _ (zah b1)).trans b1, (hW.block _ (zah b2)).trans b2⟩⟩
 obtain ⟨y0, y1, y2, _⟩ := zaH b1
 have HBE := Aside0.mk hB
 clear b0 b1 b2 hbw hB
 have herr : ∀ (W : World) (E : Int), Below W0.heap.size W0 W → E ≠ 0 → RS = ([], E) → ∃ (T0 : Option Addr) (t0 u0 : Nat) (n k : Int), Ending.returned (.tuple #[.agg #[.slice none 0 0, .int .i64 0, .int .i64 0], .int .i64 E]) = Ending.returned (.tuple #[.agg #[.slice T0 t0 u0, .int .i64 n, .int .i64 k], .int .i64 RS.2]) ∧
   (RS.2 = 0 → ∃ r : S75, RS.1 = [r] ∧ n = r.f1 ∧ k = r.f2 ∧ (Kd.int .i64).R 3 (((W.setCell ⟨B + 1 + 1, 0, none⟩ (.slice none 0 0)).setCell ⟨B + 1 + 1, 1, none⟩ (.int .i64 0)).setCell ⟨B + 1 + 1, 2, none⟩ (.int .i64 0)) w.heap.size (fun _ => True) (.slice T0 t0 u0) r.f0) ∧ Below w.heap.size w (((W.setCell ⟨B + 1 + 1, 0, none⟩ (.slice none 0 0)).setCell ⟨B + 1 + 1, 1, none⟩ (.int .i64 0)).setCell ⟨B + 1 + 1, 2, none⟩ (.int .i64 0)) := fun W E hW hE hR => by
  rw [hR]
  exact ⟨_, _, _, _, _, rfl, fun h => absurd h hE, zdM (below_step HBW.out hW) hB0 _ _ _⟩
 have HERR := Aside0.mk herr
 clear herr
 have HBR := Aside0.mk (Below.refl W0.heap.size W0)
 by_cases q : findP d.f1 0 s < 0
 ·have HE : Aside0 (RS = ([], 71)) := ⟨by rw [← HRS.out]; exact ziJ q⟩
  rw [if_pos q, decide_eq_false (by omega)] at HF
  clear q HRS
  go_wp2_with (go_at_call 31; refine (HF.out _ HBW.out).mono ?_; rintro e w1 ⟨rfl, hb1⟩; obtain ⟨k0, k1, k2⟩ := HK.out _ hb1; obtain ⟨z0, z1, z2, z3⟩ := zaH k2; clear k0 k1)
  refine bodyPost_ret (zat rfl _ _ (B + 1 + 1) _ _ rfl rfl (zcz (put3 k2 _ _ _))) rfl ?_
  exact HERR.out _ _ hb1 (by decide) HE.out
 ·rw [if_neg q, decide_eq_true (by omega)] at HF
  obtain ⟨hn0, hns⟩ : 0 ≤ findP d.f1 0 s ∧ findP d.f1 0 s < (s.length : Int) := by
   rcases zbk d.f1 s 0 with h | h
   ·exact absurd h q
   ·omega
  have hRE := fun e (he : refE (colsN cols d.f0) (colsN (rd_T49 s (findP d.f1 0 s)).f1 d.f2) d = e) (h0 : e ≠ 0) => HRS.out.symm.trans (zjK (s := s) (cols := cols) (rs := []) q he h0)
  have HQ := Aside0.mk q
  have HRE := Aside0.mk hRE
  clear q hRE
  obtain ⟨aa, P1, p1, P2, p2, P3, p3, P4, p4, haa, z0, z1, z2, z3, z4, m1, C1, m2, C2, m3, C3, m4, C4⟩ := zaR (HS.out w (Below.refl _ _)) (findP d.f1 0 s) hn0 hns
  subst haa
  have HSC : Aside0 (∀ W, Below W0.heap.size W0 W → W.cell? (aa.add ((findP d.f1 0 s).toNat * 5)) = some (.string (rd_T49 s (findP d.f1 0 s)).f0) ∧ W.cell? ⟨(aa.add ((findP d.f1 0 s).toNat * 5)).block, (aa.add ((findP d.f1 0 s).toNat * 5)).off + 1, none⟩ = some (.slice P1 (rd_T49 s (findP d.f1 0 s)).f1.length p1) ∧ W.cell? ⟨(aa.add ((findP d.f1 0 s).toNat * 5)).block, (aa.add ((findP d.f1 0 s).toNat * 5)).off + 2, none⟩ = some (.slice P2 (rd_T49 s (findP d.f1 0 s)).f2.length p2) ∧ W.cell? ⟨(aa.add ((findP d.f1 0 s).toNat * 5)).block, (aa.add ((findP d.f1 0 s).toNat * 5)).off + 3, none⟩ = some (.slice P3 (rd_T49 s (findP d.f1 0 s)).f3.length p3) ∧ W.cell? ⟨(aa.add ((findP d.f1 0 s).toNat * 5)).block, (aa.add ((findP d.f1 0 s).toNat * 5)).off + 4, none⟩ = some (.slice P4 (rd_T49 s (findP d.f1 0 s)).f4.length p4)) := ⟨fun W hW => by
   have h := below_step HBW.out hW
   exact ⟨(h.cell (World.block_lt_of_cell? w _ z0)).trans z0, (h.cell (World.block_lt_of_cell? w _ z1)).trans z1, (h.cell (World.block_lt_of_cell? w _ z2)).trans z2, (h.cell (World.block_lt_of_cell? w _ z3)).trans z3, (h.cell (World.block_lt_of_cell? w _ z4)).trans z4⟩⟩
  have HC1 := Aside0.mk C1
  have HC2 := Aside0.mk C2
  clear z0 z1 z2 z3 z4 C1 C2 C3 C4 m3 m4
  generalize hn : findP d.f1 0 s = n at *
  generalize ht : rd_T49 s n = t at *
  have HN := Aside0.mk hn
  have HT := Aside0.mk ht
  have HNM := Aside0.mk (fun W (hW : Below w.heap.size w W) => zbo tn A1 c1 cols A2 n2 c2 A3 n3 c3 A4 n4 c4 Ad cd d.f0 W (HC.out W hW) hc1 (HD0.out W hW) hcd hb0)
  have HTW := Aside0.mk (fun W (hW : Below w.heap.size w W) => zb4 Ad cd d.f0 W (HD0.out W hW) hcd)
  have HNM2 := Aside0.mk (fun W (hW : Below w.heap.size w W) => zbo t.f0 P1 p1 t.f1 P2 t.f2.length p2 P3 t.f3.length p3 P4 t.f4.length p4 Ae ce d.f2 W (Kd.C_below HC1.out hW) m1 (HD2.out W hW) hce hb2)
  have HTW2 := Aside0.mk (fun W (hW : Below w.heap.size w W) => zb4 Ae ce d.f2 W (HD2.out W hW) hce)
  clear hn ht
  go_upto_region 4 with (go_at_call 31; refine (HF.out _ HBW.out).mono ?_; rintro e w1 ⟨rfl, hb1⟩; have HB1 := Aside0.mk hb1; clear hb1)
  clear y0 y1 y2 HBR HF
  obtain ⟨k0, k1, k2⟩ := HK.out _ HB1.out
  obtain ⟨z0, z1, z2, z3, z4, _⟩ := zaT k0
  obtain ⟨y0, y1, y2, _⟩ := zaH k1
  clear k0 k1 k2
  by_cases q1 : -1 ∈ colsN cols d.f0
  ·have HE : Aside0 (RS = ([], 71)) := ⟨HRE.out 71 (by rw [zcY, if_pos q1]) (by decide)⟩
   rw [zdd q1] at HNM
   clear q1 HRE HRS
   go_wp2_with (go_at_call 104; refine (HNM.out _ (below_step HBW.out HB1.out)).mono ?_; rintro e w2 ⟨vn, rfl, hn2, hb2⟩; obtain ⟨An, cn, en⟩ := Kd.R_slice hn2; subst en; have HB2 := Aside0.mk (below_step HB1.out hb2); obtain ⟨k0, k1, k2⟩ := HK.out _ HB2.out; obtain ⟨t0, t1, t2, t3⟩ := zaH k2; clear k0 k1 hn2 hb2)
   refine bodyPost_ret (zat rfl _ _ (B + 1 + 1) _ _ rfl rfl (zcz (put3 k2 _ _ _))) rfl ?_
   exact HERR.out _ _ HB2.out (by decide) HE.out
  rw [zc4 q1] at HNM
  go_upto_region 7 with (go_at_call 104; refine (HNM.out _ (below_step HBW.out HB1.out)).mono ?_; rintro e w2 ⟨vn, rfl, hn2, hb2⟩; obtain ⟨An, cn, en⟩ := Kd.R_slice hn2; subst en; have HR2 := Aside0.mk hn2; have HB2 := Aside0.mk (below_step HB1.out hb2); clear hn2 hb2)
  clear z0 z1 z2 z3 z4 y0 y1 y2 HNM
  obtain ⟨k0, k1, k2⟩ := HK.out _ HB2.out
  obtain ⟨y0, y1, y2, _⟩ := zaH k1
  clear k0 k1 k2
  cases q2 : zbJ [] d.f0 with
  | false =>
   have HE : Aside0 (RS = ([], 70)) := ⟨HRE.out 70 (by rw [zcY, if_neg q1, if_pos (by rw [zbD _ [] [] (fun x => Iff.rfl)]; exact q2)]) (by decide)⟩
   rw [q2] at HTW
   clear q1 q2 HRE HRS
   go_wp2_with (go_at_call 105; refine (HTW.out _ (below_step HBW.out HB2.out)).mono ?_; rintro e w3 ⟨rfl, hb3⟩; have HB3 := Aside0.mk (below_step HB2.out hb3); obtain ⟨k0, k1, k2⟩ := HK.out _ HB3.out; obtain ⟨t0, t1, t2, t3⟩ := zaH k2; clear k0 k1 hb3)
   refine bodyPost_ret (zat rfl _ _ (B + 1 + 1) _ _ rfl rfl (zcz (put3 k2 _ _ _))) rfl ?_
   exact HERR.out _ _ HB3.out (by decide) HE.out
  | true =>
  have Hq2 := Aside0.mk q2
  rw [q2] at HTW
  go_upto_region 9 with (go_at_call 105; refine (HTW.out _ (below_step HBW.out HB2.out)).mono ?_; rintro e w3 ⟨rfl, hb3⟩; have HR3 := Aside0.mk (Kd.R_below HR2.out hb3); have HB3 := Aside0.mk (below_step HB2.out hb3); clear hb3)
  clear y0 y1 y2 HTW HR2 q2
  obtain ⟨k0, k1, k2⟩ := HK.out _ HB3.out
  obtain ⟨y0, y1, y2, _⟩ := zaH k1
  obtain ⟨t0, t1, t2, t3⟩ := zaH k2
  have hd0 : distP [] d.f0 = true := by rw [zbD _ [] [] (fun x => Iff.rfl)]; exact Hq2.out
  by_cases q3 : d.f0.length = d.f2.length
  case neg =>
   have HE : Aside0 (RS = ([], 78)) := ⟨HRE.out 78 (by rw [zcY, if_neg q1, if_neg (by rw [hd0]; decide), if_pos q3]) (by decide)⟩
   have d1 : ((d.f0.length : Int) == (d.f2.length : Int)) = false := beq_eq_false_iff_ne.mpr (by omega)
   have d2 : ((d.f0.length : Int) != (d.f2.length : Int)) = true := by rw [bne, d1]; rfl
   clear q1 q3 HRE HRS hd0
   go_wp2
   refine bodyPost_ret (zat rfl _ _ (B + 1 + 1) _ _ rfl rfl (zcz (put3 k2 _ _ _))) rfl ?_
   exact HERR.out _ _ HB3.out (by decide) HE.out
  case pos =>
  have d1 : ((d.f0.length : Int) == (d.f2.length : Int)) = true := beq_iff_eq.mpr (by omega)
  have d2 : ((d.f0.length : Int) != (d.f2.length : Int)) = false := by rw [bne, d1]; rfl
  have HQ1 := Aside0.mk q1
  have HQ3 := Aside0.mk q3
  have HD0E := Aside0.mk hd0
  clear q1 q3 hd0 k0 k1 k2 t0 t1 t2 t3
  go_upto_region 11 with fail
  have HKS : Aside0 (∀ W, Below W0.heap.size W0 W → W.cell? (aa.add (n.toNat * 5)) = some (.string t.f0) ∧ W.cell? ⟨(aa.add (n.toNat * 5)).block, (aa.add (n.toNat * 5)).off + 1, none⟩ = some (.slice P1 t.f1.length p1) ∧ W.cell? ⟨(aa.add (n.toNat * 5)).block, (aa.add (n.toNat * 5)).off + 2, none⟩ = some (.slice P2 t.f2.length p2) ∧ W.cell? ⟨(aa.add (n.toNat * 5)).block, (aa.add (n.toNat * 5)).off + 3, none⟩ = some (.slice P3 t.f3.length p3) ∧ W.cell? ⟨(aa.add (n.toNat * 5)).block, (aa.add (n.toNat * 5)).off + 4, none⟩ = some (.slice P4 t.f4.length p4) ∧ W.cell? ⟨B + 1, 2, none⟩ = some (.slice Ae d.f2.length ce)) := ⟨fun W hW => by
   obtain ⟨_, k1, _⟩ := HK.out W hW
   obtain ⟨x0, x1, x2, x3, x4⟩ := HSC.out W hW
   exact ⟨x0, x1, x2, x3, x4, (zaH k1).2.2.1⟩⟩
  have HB3d := Aside0.mk (zab HB3.out)
  have HR3d := Aside0.mk (Kd.R_drew HR3.out)
  obtain ⟨x0, x1, x2, x3, x4, x5⟩ := HKS.out _ HB3d.out
  clear y0 y1 y2 HB3 HR3
  by_cases q4 : -1 ∈ colsN t.f1 d.f2
  ·have HE : Aside0 (RS = ([], 71)) := ⟨HRE.out 71 (by rw [zcY, if_neg HQ1.out, if_neg (by rw [HD0E.out]; decide), if_neg (by rw [HQ3.out]; simp), if_pos q4]) (by decide)⟩
   rw [zdd q4] at HNM2
   clear q4 HRE HRS
   go_wp2
   go_region_held3 (fun W => W.cell? (aa.add (n.toNat * 5)) = some (.string t.f0) ∧ W.cell? ⟨(aa.add (n.toNat * 5)).block, (aa.add (n.toNat * 5)).off + 1, none⟩ = some (.slice P1 t.f1.length p1) ∧ W.cell? ⟨(aa.add (n.toNat * 5)).block, (aa.add (n.toNat * 5)).off + 2, none⟩ = some (.slice P2 t.f2.length p2) ∧ W.cell? ⟨(aa.add (n.toNat * 5)).block, (aa.add (n.toNat * 5)).off + 3, none⟩ = some (.slice P3 t.f3.length p3) ∧ W.cell? ⟨(aa.add (n.toNat * 5)).block, (aa.add (n.toNat * 5)).off + 4, none⟩ = some (.slice P4 t.f4.length p4) ∧ W.cell? ⟨B + 1, 2, none⟩ = some (.slice Ae d.f2.length ce)) (first | exact HKS.out _ HB3d.out | exact HKS.out _ (below_step HB3d.out hb4)) ((go_at_call 104; refine (HNM2.out _ (below_step HBW.out HB3d.out)).mono ?_; rintro e w4 ⟨vn, rfl, hn4, hb4⟩))
   obtain ⟨A6, c6, e6⟩ := Kd.R_slice hn4
   subst e6
   have HB4 := Aside0.mk (below_step HB3d.out hb4)
   clear hb4 hn4 x0 x1 x2 x3 x4 x5 HKS
   obtain ⟨k0, k1, k2⟩ := HK.out _ HB4.out
   obtain ⟨t0, t1, t2, t3⟩ := zaH k2
   clear k0 k1
   go_wp2
   refine bodyPost_ret (zat rfl _ _ (B + 1 + 1) _ _ rfl rfl (zcz (put3 k2 _ _ _))) rfl ?_
   exact HERR.out _ _ HB4.out (by decide) HE.out
  rw [zc4 q4] at HNM2
  go_wp2
  go_region_held3 (fun W => W.cell? (aa.add (n.toNat * 5)) = some (.string t.f0) ∧ W.cell? ⟨(aa.add (n.toNat * 5)).block, (aa.add (n.toNat * 5)).off + 1, none⟩ = some (.slice P1 t.f1.length p1) ∧ W.cell? ⟨(aa.add (n.toNat * 5)).block, (aa.add (n.toNat * 5)).off + 2, none⟩ = some (.slice P2 t.f2.length p2) ∧ W.cell? ⟨(aa.add (n.toNat * 5)).block, (aa.add (n.toNat * 5)).off + 3, none⟩ = some (.slice P3 t.f3.length p3) ∧ W.cell? ⟨(aa.add (n.toNat * 5)).block, (aa.add (n.toNat * 5)).off + 4, none⟩ = some (.slice P4 t.f4.length p4) ∧ W.cell? ⟨B + 1, 2, none⟩ = some (.slice Ae d.f2.length ce)) (first | exact HKS.out _ HB3d.out | exact HKS.out _ (below_step HB3d.out hb4)) ((go_at_call 104; refine (HNM2.out _ (below_step HBW.out HB3d.out)).mono ?_; rintro e w4 ⟨vn, rfl, hn4, hb4⟩))
  obtain ⟨A6, c6, e6⟩ := Kd.R_slice hn4
  subst e6
  have HB4 := Aside0.mk (below_step HB3d.out hb4)
  have HR4 := Aside0.mk hn4
  have HR34 := Aside0.mk (Kd.R_below HR3d.out hb4)
  clear hb4 hn4 x0 x1 x2 x3 x4 x5 HKS HNM2 HR3d HB3d
  obtain ⟨k0, k1, k2⟩ := HK.out _ HB4.out
  obtain ⟨y0, y1, y2, _⟩ := zaH k1
  clear k0 k1 k2
  cases q5 : zbJ [] d.f2 with
  | false =>
   have HE : Aside0 (RS = ([], 71)) := ⟨HRE.out 71 (by rw [zcY, if_neg HQ1.out, if_neg (by rw [HD0E.out]; decide), if_neg (by rw [HQ3.out]; simp), if_neg q4, if_pos (by rw [zbD _ [] [] (fun x => Iff.rfl)]; exact q5)]) (by decide)⟩
   rw [q5] at HTW2
   clear q4 q5 HRE HRS
   go_wp2_with (go_at_call 105; refine (HTW2.out _ (below_step HBW.out HB4.out)).mono ?_; rintro e w5 ⟨rfl, hb5⟩; have HB5 := Aside0.mk (below_step HB4.out hb5); obtain ⟨k0, k1, k2⟩ := HK.out _ HB5.out; obtain ⟨t0, t1, t2, t3⟩ := zaH k2; clear k0 k1 hb5)
   refine bodyPost_ret (zat rfl _ _ (B + 1 + 1) _ _ rfl rfl (zcz (put3 k2 _ _ _))) rfl ?_
   exact HERR.out _ _ HB5.out (by decide) HE.out
  | true =>
  have hd2 : distP [] d.f2 = true := by rw [zbD _ [] [] (fun x => Iff.rfl)]; exact q5
  have hE0 : refE (colsN cols d.f0) (colsN (rd_T49 s n).f1 d.f2) d = 0 := by
   rw [HT.out, zcY, if_neg HQ1.out, if_neg (by rw [HD0E.out]; decide), if_neg (by rw [HQ3.out]; simp), if_neg q4, if_neg (by rw [hd2]; decide)]
  have HE0 := Aside0.mk hE0
  have hnl : (colsN t.f1 d.f2).length ≤ 2000000 := by rw [zbL]; exact hb2
  have hcl : (colsN cols d.f0).length = (colsN t.f1 d.f2).length := by rw [zbL, zbL]; exact HQ3.out
  have HND : Aside0 ((colsN t.f1 d.f2).Nodup) := ⟨zbQ t.f1 d.f2 ((zc6 _).1 hd2) q4⟩
  have HRG := Aside0.mk (fun x (hx : x ∈ colsN cols d.f0) => (zbi cols d.f0 x hx).resolve_left (fun e => HQ1.out (e ▸ hx)))
  have HRG2 := Aside0.mk (fun x (hx : x ∈ colsN t.f1 d.f2) => (zbi t.f1 d.f2 x hx).resolve_left (fun e => q4 (e ▸ hx)))
  have HCLn := Aside0.mk hcl
  have HSO := Aside0.mk (fun A c W (h : Kd.C (Kd.int .i64) W A (colsN t.f1 d.f2).length (colsN t.f1 d.f2)) (hc : (colsN t.f1 d.f2).length ≤ c) => zdA A c (colsN t.f1 d.f2) (sortI (colsN t.f1 d.f2)) W h hc (by omega) (zbK _) (zbz _))
  have HPM := Aside0.mk (zbK (colsN t.f1 d.f2))
  rw [q5] at HTW2
  clear q4 q5 hd2 hE0 HRE hcl
  generalize hcs : colsN cols d.f0 = cs at *
  generalize hnsn : colsN t.f1 d.f2 = ns at *
  generalize hso : sortI ns = so at *
  have HSE := Aside0.mk (And.intro hcs (And.intro hnsn hso))
  clear hcs hnsn hso
  go_upto_region 15 with (first
   | (go_at_call 105; refine (HTW2.out _ (below_step HBW.out HB4.out)).mono ?_; rintro e w5 ⟨rfl, hb5⟩; have HR5 := Aside0.mk (Kd.R_below HR4.out hb5); have HR35 := Aside0.mk (Kd.R_below HR34.out hb5); have HB5 := Aside0.mk (below_step HB4.out hb5); clear hb5)
   | (go_at_call 43; refine (HSO.out _ _ _ (Kd.R_reads' HR5.out).2.2 (Kd.R_reads' HR5.out).2.1).mono ?_; rintro e w6 ⟨vs, rfl, hs6, hb6⟩; obtain ⟨As, c7, e7⟩ := Kd.R_slice hs6; subst e7; have HR6 := Aside0.mk (Kd.R_reads' hs6); have HR56 := Aside0.mk (Kd.R_reads' (Kd.R_below HR5.out hb6)); have HR36 := Aside0.mk (Kd.R_reads' (Kd.R_below HR35.out hb6)); have HB6 := Aside0.mk (below_step HB5.out hb6); clear hs6 hb6))
  clear y0 y1 y2 HTW2 HSO HR4 HR34 HR5 HR35 HB4 HB5
  have HRSF : Aside0 ((idxP (fun key => eqI key so) 0 t.f2 < 0 → RS = ([], 71)) ∧ (¬ idxP (fun key => eqI key so) 0 t.f2 < 0 → RS = ([⟨so.map fun c => rd cs (idxI c 0 ns), n, idxP (fun key => eqI key so) 0 t.f2⟩], kindsE cols t.f1 cs ns so 0))) := ⟨by
   obtain ⟨e1, e2, e3⟩ := HSE.out
   have h := HE0.out
   rw [HT.out] at h
   rw [← HRS.out]
   unfold refS
   rw [HN.out, if_neg (by omega : ¬ n < 0), HT.out]
   rw [e1, e2, e3]
   rw [e2] at h
   rw [if_pos h]
   exact ⟨fun q => by rw [if_pos q], fun q => by rw [if_neg q]; rfl⟩⟩
  have HWR : Aside0 (∀ W, Below w6.heap.size w6 W → Kd.C (Kd.int .i64) W As so.length so ∧ Kd.C (Kd.int .i64) W A6 ns.length ns ∧ Kd.C (Kd.int .i64) W An cs.length cs) := ⟨fun W hW => ⟨Kd.C_below HR6.out.2.2 hW, Kd.C_below HR56.out.2.2 hW, Kd.C_below HR36.out.2.2 hW⟩⟩
  have hc7 := HR6.out.2.1
  have hc6 := HR56.out.2.1
  have hcn := HR36.out.2.1
  have HSL := Aside0.mk HPM.out.length_eq
  have hsl2 : so.length ≤ 2000000 := by rw [HSL.out]; exact hnl
  have htl : t.f2.length ≤ 9223372036854775807 := HC2.out.2.1
  have HBL := Aside0.mk (Below.refl w6.heap.size w6)
  clear HSE HE0 HRS HR6 HR56 HR36 HQ1 HQ3 HD0E HQ Hq2
  go_wp2_with fail
  go_loopg [14] t.f2.length (fun gk v14 wx => ∃ (k : Nat), k + gk = t.f2.length ∧ v14 = .int .i64 k ∧ Aside0 (Below w6.heap.size w6 wx) ∧ Aside0 (idxP (fun key => eqI key so) 0 t.f2 = idxP (fun key => eqI key so) k (t.f2.drop k)))
  case atStart => exact ⟨0, by omega, rfl, HBL, ⟨by simp⟩⟩
  case round =>
   clear HBL
   obtain ⟨k, hk, rfl, HBL, HP⟩ := hrel
   have HB7 := Aside0.mk (below_step HB6.out HBL.out)
   obtain ⟨x0, x1, x2, x3, x4⟩ := HSC.out _ HB7.out
   cases gk with
   | zero =>
    have hkk : ¬ (k : Int) < (t.f2.length : Int) := by omega
    have hp := HP.out
    rw [List.drop_eq_nil_of_le (by omega)] at hp
    have HE : Aside0 (RS = ([], 71)) := ⟨HRSF.out.1 (by rw [hp]; show (-1 : Int) < 0; decide)⟩
    obtain ⟨k0, k1, k2⟩ := HK.out _ HB7.out
    obtain ⟨t0, t1, t2, t3⟩ := zaH k2
    clear hp HP k0 k1 HRSF
    go_wp2
    refine bodyPost_ret (zat rfl _ _ (B + 1 + 1) _ _ rfl rfl (zcz (put3 k2 _ _ _))) rfl ?_
    exact HERR.out _ _ HB7.out (by decide) HE.out
   | succ gk =>
    have hlt : k < t.f2.length := by omega
    have hkk : (k : Int) < (t.f2.length : Int) := by omega
    have hk0 : (0 : Int) ≤ (k : Int) := by omega
    obtain ⟨ak, Ar, cr, hA, z0, hcr, hCr⟩ := zcJ (Kd.C_below HC2.out (below_step HBW.out HB7.out)) (k : Int) hk0 hkk
    subst hA
    have hrd : rd_L6 t.f2 (k : Int) = t.f2[k] := by unfold rd_L6; simp [List.getD, hlt]
    rw [hrd] at z0 hcr hCr
    rw [Int.toNat_natCast] at z0
    have hp := HP.out
    rw [List.drop_eq_getElem_cons hlt, idxP] at hp
    have HSI := Aside0.mk (zeq Ar cr t.f2[k] As c7 so wr hCr hcr (HWR.out _ HBL.out).1 hc7)
    clear hrd hCr HP
    generalize t.f2[k] = row at *
    cases q : eqI row so with
    | false =>
     rw [q] at hp HSI
     have HP2 : Aside0 (idxP (fun key => eqI key so) 0 t.f2 = idxP (fun key => eqI key so) (k + 1) (t.f2.drop (k + 1))) := ⟨by rw [hp]; rfl⟩
     clear hp q
     go_wp2_with (go_at_call 38; refine HSI.out.mono ?_; rintro e w8 ⟨rfl, hb8⟩; have HBL8 := Aside0.mk (below_step HBL.out hb8); clear hb8)
     go_roundg gk
     case measure => omega
     case rel => exact ⟨k + 1, by omega, by first | rfl | (simp; done) | (simp; unfold wrap64; omega), HBL8, HP2⟩
    | true =>
     rw [q] at hp HSI
     have HE : Aside0 (RS = ([⟨so.map fun c => rd cs (idxI c 0 ns), n, (k : Int)⟩], kindsE cols t.f1 cs ns so 0)) := ⟨by
      have h : idxP (fun key => eqI key so) 0 t.f2 = (k : Int) := by rw [hp]; rfl
      have h2 := HRSF.out.2 (by rw [h]; omega)
      rw [h] at h2
      exact h2⟩
     clear hp q HRSF x0 x1 x3 x4
     go_upto_region 20 with (go_at_call 38; refine HSI.out.mono ?_; rintro e w8 ⟨rfl, hb8⟩; have HBL8 := Aside0.mk (below_step HBL.out hb8); clear hb8)
     obtain ⟨C, hCe⟩ : ∃ C, C = w8.heap.size := ⟨_, rfl⟩
     obtain ⟨W9, hW9⟩ : ∃ W, W = w8.alloc (Obj.cells #[.slice none 0 0, .int .i64 n, .int .i64 k] 75) := ⟨_, rfl⟩
     have hbC : W9.heap[C]? = some (.cells #[.slice none 0 0, .int .i64 n, .int .i64 k] 75 (0, 0)) := by rw [hW9, hCe]; exact Go.Deep.blk_alloc_new _ _
     have hb89 : Below w8.heap.size w8 W9 := by rw [hW9]; exact (Below.refl _ _).alloc (Nat.le_refl _) _
     rw [← hW9, ← hCe]
     have HC8 := Aside0.mk hCe
     have HX8 : Aside0 (∀ W, Below w8.heap.size w8 W → Below w6.heap.size w6 W) := ⟨fun W hW => below_step HBL8.out hW⟩
     have HW08 : Aside0 (w.heap.size ≤ w8.heap.size) := ⟨(below_step HBW.out (below_step HB6.out HBL8.out)).size⟩
     have HBK := Aside0.mk hbC
     have HB89 := Aside0.mk hb89
     have HR0 : Aside0 ((Kd.int .i64).R 3 W9 w8.heap.size (fun _ => True) (.slice none 0 0) ((so.take 0).map fun c => rd cs (idxI c 0 ns))) := ⟨Kd.R_nil _ _ _ _ _⟩
     clear hCe hW9 hbC hb89 x2 z0 HBL HSI HB7
     go_wp2_with fail
     go_loopg [16] so.length (fun gi v16 wx => ∃ (i : Nat) (vo : Value), i + gi = so.length ∧ v16 = .int .i64 i ∧ Aside0 (wx.heap[C]? = some (.cells #[vo, .int .i64 n, .int .i64 k] 75 (0, 0))) ∧ Aside0 ((Kd.int .i64).R 3 wx w8.heap.size (fun _ => True) vo ((so.take i).map fun c => rd cs (idxI c 0 ns))) ∧ Aside0 (Below w8.heap.size w8 wx))
     case atStart => exact ⟨0, _, by omega, rfl, HBK, HR0, HB89⟩
     case round =>
      clear HBK HR0 HB89
      obtain ⟨i, vo, hi, rfl, HBK, HR0, HB89⟩ := hrel
      cases gk with
      | succ gi =>
       have hilt : i < so.length := by omega
       have hii : (i : Int) < (so.length : Int) := by omega
       have hi0 : (0 : Int) ≤ (i : Int) := by omega
       have hcm : so[i] ∈ ns := HPM.out.mem_iff.1 (List.getElem_mem hilt)
       have HCM := Aside0.mk hcm
       have HTI : Aside0 ((so.take (i + 1)).map (fun c => rd cs (idxI c 0 ns)) = (so.take i).map (fun c => rd cs (idxI c 0 ns)) ++ [rd cs (idxI so[i] 0 ns)]) := ⟨by rw [zay hilt, List.map_append]; rfl⟩
       have hpl : ((so.take i).map fun c => rd cs (idxI c 0 ns)).length ≤ 2000000 := by rw [List.length_map, List.length_take]; omega
       have HSCI : Aside0 (∀ W, Below w8.heap.size w8 W → W.cell? ⟨0, 0, none⟩ = W.cell? ⟨0, 0, none⟩) := ⟨fun _ _ => rfl⟩
       obtain ⟨as_, hA, u0⟩ := Kd.at_int (HWR.out _ (HX8.out _ HB89.out)).1 (i : Int) hi0 hii
       subst hA
       rw [zfa hilt, Int.toNat_natCast] at u0
       have HU : Aside0 (∀ W, Below w8.heap.size w8 W → W.cell? (as_.add i) = some (.int .i64 so[i])) := ⟨fun W hW => by
        obtain ⟨a2, hA2, u2⟩ := Kd.at_int (HWR.out _ (HX8.out _ hW)).1 (i : Int) hi0 hii
        cases hA2
        rw [zfa hilt, Int.toNat_natCast] at u2
        exact u2⟩
       have HMS : Aside0 (midI cs ns so[i] ((so.take i).map fun c => rd cs (idxI c 0 ns)) 0 = (so.take i).map fun c => rd cs (idxI c 0 ns)) := ⟨ziS _ _ _ _⟩
       clear hcm u0 HSCI
       generalize so[i] = c at *
       generalize ((so.take i).map fun c => rd cs (idxI c 0 ns)) = pre at *
       rw [← HMS.out] at HR0
       clear HMS
       go_wp2_with fail
       go_loopg [17] ns.length (fun gj v17 wx => ∃ (j : Nat) (vo : Value), j + gj = ns.length ∧ v17 = .int .i64 j ∧ Aside0 (wx.heap[C]? = some (.cells #[vo, .int .i64 n, .int .i64 k] 75 (0, 0))) ∧ Aside0 ((Kd.int .i64).R 3 wx w8.heap.size (fun _ => True) vo (midI cs ns c pre j)) ∧ Aside0 (Below w8.heap.size w8 wx))
       case atStart => exact ⟨0, _, by omega, rfl, HBK, HR0, HB89⟩
       case round =>
        clear HBK HR0 HB89
        obtain ⟨j, vo, hj, rfl, HBK, HR0, HB89⟩ := hrel
        cases gk with
        | zero =>
         have hjj : ¬ (j : Int) < (ns.length : Int) := by omega
         have hje : j = ns.length := by omega
         rw [hje, zjL HCM.out] at HR0
         clear hje
         go_wp2_with fail
         go_roundg gi
         case measure => omega
         case rel => exact ⟨i + 1, _, by omega, by first | rfl | (simp; done) | (simp; unfold wrap64; omega), HBK, ⟨by rw [HTI.out]; exact HR0.out⟩, HB89⟩
        | succ gj =>
         have hjlt : j < ns.length := by omega
         have hjj : (j : Int) < (ns.length : Int) := by omega
         have hjc : (j : Int) < (cs.length : Int) := by have := HCLn.out; omega
         have hj0 : (0 : Int) ≤ (j : Int) := by omega
         obtain ⟨an_, hA, q0⟩ := Kd.at_int (HWR.out _ (HX8.out _ HB89.out)).2.1 (j : Int) hj0 hjj
         subst hA
         rw [zfa hjlt, Int.toNat_natCast] at q0
         have y0 := HU.out _ HB89.out
         have HBN : Aside0 (∀ nq, Below w8.heap.size w8 (wr.drewN nq) ∧ (wr.drewN nq).heap[C]? = some (.cells #[vo, .int .i64 n, .int .i64 k] 75 (0, 0)) ∧ (Kd.int .i64).R 3 (wr.drewN nq) w8.heap.size (fun _ => True) vo (midI cs ns c pre j)) := ⟨fun nq => ⟨below_step HB89.out (zaa (Below.refl _ _) nq), ((zaa (Below.refl wr.heap.size wr) nq).block _ (zah HBK.out)).trans HBK.out, Kd.R_drewN HR0.out nq⟩⟩
         have HHIT := Aside0.mk (fun e => zkb (cs := cs) HND.out HCM.out pre hjlt e)
         have HMISS := Aside0.mk (fun e => zjk (cs := cs) HND.out HCM.out pre hjlt e)
         have hml := zjJ cs ns c pre j
         generalize ns[j] = x at *
         clear HBK HR0 HB89
         by_cases q : x = c
         ·have e1 : (x == c) = true := beq_iff_eq.mpr q
          obtain ⟨hm1, hm2⟩ := HHIT.out q
          have HM2 := Aside0.mk hm2
          rw [hm1] at HBN
          clear q HHIT HMISS hm1 hm2 hml
          go_upto_region 26 with fail
          go_quiet (fail)
          go_upto_region 27 with fail
          obtain ⟨hb9, hk9, hr9⟩ := HBN.out nq
          generalize wr.drewN nq = wq at *
          obtain ⟨Ao, co, eo⟩ := Kd.R_slice hr9
          subst eo
          obtain ⟨ac_, hA, v0⟩ := Kd.at_int (HWR.out _ (HX8.out _ (zab hb9))).2.2 (j : Int) hj0 hjc
          subst hA
          rw [Int.toNat_natCast] at v0
          have HVC : Aside0 (∀ W, Below w8.heap.size w8 W → W.cell? (ac_.add j) = some (.int .i64 (rd cs (j : Int)))) := ⟨fun W hW => by
           obtain ⟨a2, hA2, u2⟩ := Kd.at_int (HWR.out _ (HX8.out _ hW)).2.2 (j : Int) hj0 hjc
           cases hA2
           rw [Int.toNat_natCast] at u2
           exact u2⟩
          generalize rd cs (j : Int) = y at *
          have HBD := Aside0.mk (zab hb9)
          have HKd : Aside0 (wq.drew.heap[C]? = some (.cells #[.slice Ao pre.length co, .int .i64 n, .int .i64 k] 75 (0, 0))) := ⟨hk9⟩
          have HRd := Aside0.mk (Kd.R_drew hr9)
          have hdd : wq.drew.cell? ⟨C, 0, none⟩ = some (.slice Ao pre.length co) ∧ wq.drew.cell? (ac_.add j) = some (.int .i64 y) := ⟨(zad hk9 0).trans rfl, v0⟩
          clear hb9 hk9 hr9 v0 q0 y0 HBN
          go_wp2
          refine zbI (n := 10) (S := fun W => W.cell? ⟨C, 0, none⟩ = some (.slice Ao pre.length co) ∧ W.cell? (ac_.add j) = some (.int .i64 y)) (ds := [9]) #[false, false, false, false, false, false, false, false, false, false] (by kernel_rfl) rfl rfl hdd (fun hHeld => ?_)
          clear hdd
          generalize wq.drew = V1 at *
          refine zau (i := 0) (N := some 117) (v := ?_) (a' := ?_) #[true, false, false, false, false, false, false, false, false, false] rfl rfl (by kernel_rfl) (fun _ _ _ h => h) (Or.inl ⟨by rfl, ?_⟩) ?_ ?_
          rotate_left
          ·intro w'; go_simp; with_reducible rfl
          rotate_left
          ·simp only [Act.put, List.setIfInBounds_toArray, List.set_cons_zero, List.set_cons_succ, zaj, zak]; rfl
          refine take_ (i := 1) (N := some 118) (v := ?_) (a' := ?_) #[true, true, false, false, false, false, false, false, false, false] rfl rfl (by kernel_rfl) (fun _ _ _ h => h) (Or.inl ⟨by rfl, ?_⟩) hHeld ?_ ?_
          rotate_left
          ·rintro w' ⟨s0, s1⟩; go_simp; with_reducible rfl
          rotate_left
          ·simp only [Act.put, List.setIfInBounds_toArray, List.set_cons_zero, List.set_cons_succ, zaj, zak]; rfl
          refine zau (i := 2) (N := some 119) (v := ?_) (a' := ?_) #[true, true, true, false, false, false, false, false, false, false] rfl rfl (by kernel_rfl) (fun _ _ _ h => h) (Or.inl ⟨by rfl, ?_⟩) ?_ ?_
          rotate_left
          ·intro w'; go_simp; with_reducible rfl
          rotate_left
          ·simp only [Act.put, List.setIfInBounds_toArray, List.set_cons_zero, List.set_cons_succ, zaj, zak]; rfl
          refine zau (i := 3) (N := some 120) (v := ?_) (a' := ?_) #[true, true, true, true, false, false, false, false, false, false] rfl rfl (by kernel_rfl) (fun _ _ _ h => h) (Or.inl ⟨by rfl, ?_⟩) ?_ ?_
          rotate_left
          ·intro w'; go_simp; with_reducible rfl
          rotate_left
          ·simp only [Act.put, List.setIfInBounds_toArray, List.set_cons_zero, List.set_cons_succ, zaj, zak]; rfl
          refine zau (i := 4) (N := some 121) (v := ?_) (a' := ?_) #[true, true, true, true, true, false, false, false, false, false] rfl rfl (by kernel_rfl) (fun _ _ _ h => h) (Or.inl ⟨by rfl, ?_⟩) ?_ ?_
          rotate_left
          ·intro w'; go_simp; with_reducible rfl
          rotate_left
          ·simp only [Act.put, List.setIfInBounds_toArray, List.set_cons_zero, List.set_cons_succ, zaj, zak]; rfl
          refine take_ (i := 5) (N := some 122) (v := ?_) (a' := ?_) #[true, true, true, true, true, true, false, false, false, false] rfl rfl (by kernel_rfl) (fun _ _ _ h => h) (Or.inl ⟨by rfl, ?_⟩) hHeld ?_ ?_
          rotate_left
          ·rintro w' ⟨s0, s1⟩; go_simp; with_reducible rfl
          rotate_left
          ·simp only [Act.put, List.setIfInBounds_toArray, List.set_cons_zero, List.set_cons_succ, zaj, zak]; rfl
          refine one_ (i := 6) (N := some 123) #[true, true, true, true, true, true, true, false, false, false] rfl rfl (by kernel_rfl) (by decide) (fun K hK => ?_)
          refine za7 (by rfl) (v := .slice (some ⟨V1.heap.size, 0, none⟩) 1 1) (w1 := V1.alloc (.cells #[.int .i64 y] 3)) ?hr2 ?_
          case hr2 => first | (go_simp; done) | (go_simp; rfl)
          have hba := zac (Below.refl V1.heap.size V1) (.cells #[.int .i64 y] 3)
          refine hK.out _ _ ⟨(hba.cell (World.block_lt_of_cell? V1 _ hHeld.1)).trans hHeld.1, HVC.out _ (below_step HBD.out hba)⟩ (fun hHeld2 => ?_)
          clear hK K hba hHeld2
          refine za8 (a' := ?_) ?_ ?_
          rotate_left
          ·show Act.put _ (some 123) _ = _; simp only [Act.put, List.setIfInBounds_toArray, List.set_cons_zero, List.set_cons_succ, zaj, zak]; rfl
          refine one_ (i := 7) (N := some 124) #[true, true, true, true, true, true, true, true, false, false] rfl rfl (by kernel_rfl) (by decide) (fun K hK => ?_)
          refine Kd.R_append_step (Kd.int .i64) (w0 := w8) w8.heap.size (by rfl) (.tmp 118) (.tmp 123) 70 3 (.int .i64 0) 8 rfl Tryz.underlying70 zeY rfl (by decide) (by omega) (.slice Ao pre.length co) pre y [.int .i64 y] (fun _ => True) (fun _ => False) rfl rfl rfl (fun _ h => h.elim) (fun _ _ => trivial) HRd.out HBD.out HBD.out.size (by omega) ?_
          intro v8 V5 hv8 hb8 hg8 _
          generalize hl2 : pre ++ [y] = pre2 at *
          clear hl2
          obtain ⟨A8, c8, e8⟩ := Kd.R_slice hv8
          subst e8
          have dC := zax HKd.out hg8 (Kd.R_ne HRd.out HKd.out (by decide))
          refine hK.out _ _ ⟨(zad dC 0).trans rfl, HVC.out _ hb8⟩ (fun hHeld5 => ?_)
          clear hK K
          refine za8 (a' := ?_) ?_ ?_
          rotate_left
          ·show Act.put _ (some 124) _ = _; simp only [Act.put, List.setIfInBounds_toArray, List.set_cons_zero, List.set_cons_succ, zaj, zak]; rfl
          refine zau (i := 8) (N := some 125) (v := ?_) (a' := ?_) #[true, true, true, true, true, true, true, true, true, false] rfl rfl (by kernel_rfl) (fun _ _ _ h => h) (Or.inl ⟨by rfl, ?_⟩) ?_ ?_
          rotate_left
          ·intro w'; go_simp; with_reducible rfl
          rotate_left
          ·simp only [Act.put, List.setIfInBounds_toArray, List.set_cons_zero, List.set_cons_succ, zaj, zak]; rfl
          refine zfh (i := 9) (N := none) #[true, true, true, true, true, true, true, true, true, true] rfl rfl (by kernel_rfl) (by decide) (fun K hK => ?_)
          refine zaL (by rfl) 70 (.tmp 125) (.tmp 124) rfl rfl rfl rfl (zaG 70 (.slice A8 pre2.length c8) [.slice A8 pre2.length c8] dC rfl (by kernel_rfl) (by show 0 + 1 ≤ 3; omega) (by simp [Value.oneCell'])) ?_
          refine hK.out _ _ ?_
          clear hK K
          refine zc8 (by kernel_rfl) ?_
          have hC1 : w8.heap.size ≤ C := by rw [HC8.out]; exact Nat.le_refl _
          have HB9 := Aside0.mk (hb8.setCell (p := ⟨C, 0, none⟩) hC1 (.slice A8 pre2.length c8))
          have HR9 := Aside0.mk (zaN hv8 dC (by decide) (zaz V5 C 0 (.slice A8 pre2.length c8)))
          have HK9 := Aside0.mk (zas dC 0 (.slice A8 pre2.length c8) rfl)
          clear dC hv8 hb8 hg8 hHeld hHeld5 HKd HRd HBD HVC hC1
          go_wp2
          go_roundg gj
          case measure => omega
          case rel => exact ⟨j + 1, _, by omega, by first | rfl | (simp; done) | (simp; unfold wrap64; omega), HK9, ⟨by rw [HM2.out]; exact HR9.out⟩, HB9⟩
         ·have e1 : (x == c) = false := beq_eq_false_iff_ne.mpr q
          have HM2 := Aside0.mk (HMISS.out q)
          clear q HHIT HMISS hml
          go_wp2_with fail
          go_quiet (fail)
          go_wp2_with fail
          obtain ⟨hb9, hk9, hr9⟩ := HBN.out nq
          have HB9 := Aside0.mk hb9
          have HK9 := Aside0.mk hk9
          have HR9 := Aside0.mk hr9
          clear hb9 hk9 hr9 HBN
          go_roundg gj
          case measure => omega
          case rel => exact ⟨j + 1, _, by omega, by first | rfl | (simp; done) | (simp; unfold wrap64; omega), HK9, ⟨by rw [HM2.out]; exact HR9.out⟩, HB9⟩
      | zero =>
       have hii : ¬ (i : Int) < (so.length : Int) := by omega
       have e : so.take i = so := List.take_of_length_le (by omega)
       rw [e] at HR0
       have HRW : Aside0 (∀ x : Nat, (h : x < so.length) → 0 ≤ (so.map fun c => rd cs (idxI c 0 ns)).getD x 0 ∧ (so.map fun c => rd cs (idxI c 0 ns)).getD x 0 < (cols.length : Int) ∧ (so.map fun c => rd cs (idxI c 0 ns)).getD x 0 = rd cs (idxI so[x] 0 ns) ∧ 0 ≤ so[x] ∧ so[x] < (t.f1.length : Int)) := ⟨fun x h => by
        have hm := HPM.out.mem_iff.1 (List.getElem_mem h)
        have e9 : (so.map fun c => rd cs (idxI c 0 ns)).getD x 0 = rd cs (idxI so[x] 0 ns) := by simp [List.getD, h]
        obtain ⟨i0, i1⟩ := zcK hm
        have hj : (idxI so[x] 0 ns).toNat < cs.length := by have := HCLn.out; omega
        have e8 : idxI so[x] 0 ns = (((idxI so[x] 0 ns).toNat : Nat) : Int) := by omega
        have hmem : rd cs (idxI so[x] 0 ns) ∈ cs := by rw [e8]; exact zjd hj
        rw [e9]
        obtain ⟨g0, g1⟩ := HRG.out _ hmem
        obtain ⟨g2, g3⟩ := HRG2.out _ hm
        exact ⟨g0, g1, rfl, g2, g3⟩⟩
       have HROL : Aside0 ((so.map fun c => rd cs (idxI c 0 ns)).length = so.length) := ⟨List.length_map _⟩
       generalize (so.map fun c => rd cs (idxI c 0 ns)) = ro at *
       obtain ⟨Ao, co, eo⟩ := Kd.R_slice HR0.out
       subst eo
       have HKE : Aside0 (kindsE cols t.f1 cs ns so 0 = kindsE cols t.f1 cs ns (so.drop 0) 0) := ⟨by rw [List.drop_zero]⟩
       have hrl : ro.length ≤ 2000000 := by rw [HROL.out]; exact hsl2
       clear hii e
       go_wp2_with fail
       go_loopg [18] so.length (fun gi v18 wx => ∃ (i : Nat), i + gi = so.length ∧ v18 = .int .i64 i ∧ Aside0 (wx.heap[C]? = some (.cells #[.slice Ao ro.length co, .int .i64 n, .int .i64 k] 75 (0, 0))) ∧ Aside0 ((Kd.int .i64).R 3 wx w8.heap.size (fun _ => True) (.slice Ao ro.length co) ro) ∧ Aside0 (Below w8.heap.size w8 wx) ∧ Aside0 (kindsE cols t.f1 cs ns so 0 = kindsE cols t.f1 cs ns (so.drop i) 0))
       case atStart => exact ⟨0, by omega, rfl, HBK, HR0, HB89, HKE⟩
       case round =>
        clear HBK HR0 HB89 HKE
        obtain ⟨i, hi, rfl, HBK, HR0, HB89, HKE⟩ := hrel
        have HB0 := Aside0.mk (below_step HB6.out (HX8.out _ HB89.out))
        obtain ⟨k0, k1, k2⟩ := HK.out _ HB0.out
        cases gk with
        | zero =>
         have hii : ¬ (i : Int) < (so.length : Int) := by omega
         have hke := HKE.out
         rw [List.drop_eq_nil_of_le (by omega)] at hke
         have hE2 := HE.out
         rw [hke] at hE2
         have HE2 : Aside0 (RS = ([⟨ro, n, (k : Int)⟩], 0)) := ⟨hE2⟩
         obtain ⟨t0, t1, t2, t3⟩ := zaH k2
         obtain ⟨g0, g1, g2, g3⟩ := zaH HBK.out
         have HK2 := Aside0.mk k2
         clear hke hE2 HKE HE k0 k1 k2
         go_wp2_with fail
         refine bodyPost_ret (zat rfl _ _ (B + 1 + 1) _ _ rfl rfl (zcz (put3 HK2.out _ _ _))) rfl ?_
         have g5 : ∀ a b c : Value, wr.grownBy (((wr.setCell ⟨B + 1 + 1, 0, none⟩ a).setCell ⟨B + 1 + 1, 1, none⟩ b).setCell ⟨B + 1 + 1, 2, none⟩ c) (some (B + 1 + 1)) := fun a b c => zae (zae (zaz _ _ _ _) (zaz _ _ _ _)) (zaz _ _ _ _)
         rw [HE2.out]
         exact ⟨_, _, _, _, _, rfl, fun _ => ⟨⟨ro, n, (k : Int)⟩, rfl, rfl, rfl, Kd.R_lower (zaN HR0.out HK2.out (by decide) (g5 _ _ _)) HW08.out⟩, zdM (below_step HBW.out HB0.out) hB0 _ _ _⟩
        | succ gi =>
         have hilt : i < so.length := by omega
         have hir : i < ro.length := by rw [HROL.out]; exact hilt
         have hii : (i : Int) < (so.length : Int) := by omega
         have hiro : (i : Int) < (ro.length : Int) := by omega
         have hi0 : (0 : Int) ≤ (i : Int) := by omega
         obtain ⟨r0, r1, r2, r3, r4⟩ := HRW.out i hilt
         obtain ⟨as_, hA, u0⟩ := Kd.at_int (HWR.out _ (HX8.out _ HB89.out)).1 (i : Int) hi0 hii
         subst hA
         rw [zfa hilt, Int.toNat_natCast] at u0
         obtain ⟨ao_, hA, o0⟩ := Kd.at_int (Kd.R_reads' HR0.out).2.2 (i : Int) hi0 hiro
         subst hA
         rw [show rd ro (i : Int) = ro.getD i 0 by unfold rd; simp, Int.toNat_natCast] at o0
         have hke := HKE.out
         rw [List.drop_eq_getElem_cons hilt] at hke
         have hke2 : kindsE cols t.f1 cs ns (so[i] :: so.drop (i + 1)) 0 = kindsE cols t.f1 cs ns (so.drop (i + 1)) (askE 0 ((rd_T78 cols (ro.getD i 0)).f1 != (rd_T78 t.f1 so[i]).f1) 79) := by rw [r2]; rfl
         rw [hke2] at hke
         have HKE2 := Aside0.mk hke
         generalize ro.getD i 0 = ow at *
         generalize so[i] = c at *
         obtain ⟨a1, hA, _, c1_, _⟩ := za6 (HC.out _ (below_step HBW.out HB0.out)) ow r0 r1
         subst hA
         obtain ⟨q1, hA, _, p1_, _⟩ := za6 (Kd.C_below HC1.out (below_step HBW.out HB0.out)) c r3 r4
         subst hA
         obtain ⟨z0, z1, z2, z3, z4, _⟩ := zaT k0
         obtain ⟨x0, x1, x2, x3, x4⟩ := HSC.out _ HB0.out
         have g0 : wr.cell? ⟨C, 0, none⟩ = some (.slice (some ao_) ro.length co) := (zad HBK.out 0).trans rfl
         have HBN : Aside0 (∀ nq, Below w8.heap.size w8 (wr.drewN nq) ∧ (wr.drewN nq).heap[C]? = some (.cells #[.slice (some ao_) ro.length co, .int .i64 n, .int .i64 k] 75 (0, 0)) ∧ (Kd.int .i64).R 3 (wr.drewN nq) w8.heap.size (fun _ => True) (.slice (some ao_) ro.length co) ro) := ⟨fun nq => ⟨below_step HB89.out (zaa (Below.refl _ _) nq), ((zaa (Below.refl wr.heap.size wr) nq).block _ (zah HBK.out)).trans HBK.out, Kd.R_drewN HR0.out nq⟩⟩
         generalize (rd_T78 cols ow).f1 = kx at *
         generalize (rd_T78 t.f1 c).f1 = ky at *
         clear hke hke2 r2 HKE HBK HR0 HB89 k0 k1 k2 z0 z2 z3 z4 x0 x2 x3 x4
         by_cases q : kx = ky
         ·have e1 : (kx == ky) = true := beq_iff_eq.mpr q
          have e2 : (kx != ky) = false := by rw [bne, e1]; rfl
          have HKE3 : Aside0 (kindsE cols t.f1 cs ns so 0 = kindsE cols t.f1 cs ns (so.drop (i + 1)) 0) := ⟨by have h := HKE2.out; rw [e2] at h; exact h⟩
          clear q HKE2
          go_wp2_with fail
          go_quiet (fail)
          go_wp2_with fail
          obtain ⟨hb9, hk9, hr9⟩ := HBN.out nq
          have HB9 := Aside0.mk hb9
          have HK9 := Aside0.mk hk9
          have HR9 := Aside0.mk hr9
          clear hb9 hk9 hr9 HBN
          go_roundg gi
          case measure => omega
          case rel => exact ⟨i + 1, by omega, by first | rfl | (simp; done) | (simp; unfold wrap64; omega), HK9, HR9, HB9, HKE3⟩
         ·have e1 : (kx == ky) = false := beq_eq_false_iff_ne.mpr q
          have e2 : (kx != ky) = true := by rw [bne, e1]; rfl
          have HE79 : Aside0 (RS.2 = 79) := ⟨by
           have h := HKE2.out
           rw [e2] at h
           rw [HE.out]
           exact h.trans (zdU cols t.f1 cs ns (so.drop (i + 1)) 79 (by decide))⟩
          have HK2 : Aside0 (∀ nq, (wr.drewN nq).heap[B + 1 + 1]? = some (.cells #[.slice none 0 0, .int .i64 0, .int .i64 0] 75 (0, 0)) ∧ Below w.heap.size w (wr.drewN nq)) := ⟨fun nq => ⟨(HK.out _ (below_step HB0.out (zaa (Below.refl _ _) nq))).2.2, below_step HBW.out (below_step HB0.out (zaa (Below.refl _ _) nq))⟩⟩
          clear q HKE2 HBN HE
          go_upto_region 31 with fail
          go_quiet (fail)
          go_upto_region 32 with fail
          obtain ⟨h2, hb2⟩ := HK2.out nq
          obtain ⟨t0, t1, t2, t3⟩ := zaH h2
          have HH2 := Aside0.mk h2
          have HHB := Aside0.mk hb2
          clear h2 hb2 HK2
          generalize wr.drewN nq = wq at *
          go_wp2_with fail
          refine bodyPost_ret (zat rfl _ _ (B + 1 + 1) _ _ rfl rfl (zcz (put3 HH2.out _ _ _))) rfl ?_
          rw [HE79.out]
          exact ⟨_, _, _, _, _, rfl, fun h => absurd h (by decide), zdM HHB.out hB0 _ _ _⟩
theorem zg3 (v : Bool) (nm : ByteArray) (defs : List S109) (keys : List (List ByteArray)) (refs : List S105) : zbF v nm defs keys refs = (!v || (!nmB nm || !partsB defs keys refs)) := by
 unfold zbF partsB
 rw [← zeR defB defs, ← zeR namesB keys, ← zeR zea refs]
 cases v <;> cases nmB nm <;> cases (defs.any fun x => !defB x) <;> cases (keys.any fun x => !namesB x) <;> cases (refs.any fun x => !zea x) <;> rfl
theorem ziR {v : Bool} {s : List S49} {nm : ByteArray} {defs : List S109} {keys : List (List ByteArray)} {refs : List S105} (h : zbF v nm defs keys refs = true) : err0 v s nm defs keys refs = 1 := by
 unfold err0; rw [h]; simp [askE]
theorem zji {v : Bool} {s : List S49} {nm : ByteArray} {defs : List S109} {keys : List (List ByteArray)} {refs : List S105} (h : zbF v nm defs keys refs = false) (h1 : 0 ≤ findP nm 0 s) : err0 v s nm defs keys refs = 70 := by
 unfold err0; rw [h, decide_eq_true h1]; simp [askE]
theorem zkS {v : Bool} {s : List S49} {nm : ByteArray} {defs : List S109} {keys : List (List ByteArray)} {refs : List S105} (h : zbF v nm defs keys refs = false) (h1 : ¬ 0 ≤ findP nm 0 s) (h2 : bigP s defs keys refs = true) : err0 v s nm defs keys refs = 72 := by
 unfold err0; rw [h, decide_eq_false h1, h2]; simp [askE]
theorem zjx {v : Bool} {s : List S49} {nm : ByteArray} {defs : List S109} {keys : List (List ByteArray)} {refs : List S105} (h : zbF v nm defs keys refs = false) (h1 : ¬ 0 ≤ findP nm 0 s) (h2 : bigP s defs keys refs = false) : err0 v s nm defs keys refs = if distP [] (defs.map fun x => x.f0) = true then 0 else 70 := by
 unfold err0; rw [h, decide_eq_false h1, h2]
 cases distP [] (defs.map fun x => x.f0) <;> simp [askE]
theorem zbT {v : Bool} {s : List S49} {d : Data} {nm : ByteArray} {defs : List S109} {keys : List (List ByteArray)} {refs : List S105} {e : Int} (h : err0 v s nm defs keys refs = e) (h0 : e ≠ 0) : createP v s d nm defs keys refs = ([], [], e) := by
 have h1 : ∀ cols : List S78, zbM e cols keys [] = ([], e) := fun cols => by unfold zbM; rw [if_neg h0]
 have h2 : ∀ cols : List S78, zb3 e s cols refs [] = ([], e) := fun cols => by unfold zb3; rw [if_neg h0]
 unfold createP
 rw [h, h1, h2, if_neg h0]
theorem zfz {v : Bool} {s : List S49} {d : Data} {nm : ByteArray} {defs : List S109} {keys : List (List ByteArray)} {refs : List S105} (h : err0 v s nm defs keys refs = 0) (h0 : (zbA (defs.map madeC) keys []).2 ≠ 0) : createP v s d nm defs keys refs = ([], [], (zbA (defs.map madeC) keys []).2) := by
 have h1 : zbM 0 (defs.map madeC) keys [] = zbA (defs.map madeC) keys [] := by unfold zbM; rw [if_pos rfl]
 have h2 : zb3 (zbA (defs.map madeC) keys []).2 s (defs.map madeC) refs [] = ([], (zbA (defs.map madeC) keys []).2) := by unfold zb3; rw [if_neg h0]
 unfold createP
 rw [h, h1, h2, if_neg h0]
theorem zfU {v : Bool} {s : List S49} {d : Data} {nm : ByteArray} {defs : List S109} {keys : List (List ByteArray)} {refs : List S105} (h : err0 v s nm defs keys refs = 0) (h0 : (zbA (defs.map madeC) keys []).2 = 0) : createP v s d nm defs keys refs =
  if (zbZ s (defs.map madeC) refs []).2 = 0 then (s ++ [⟨nm, defs.map madeC, (zbA (defs.map madeC) keys []).1, (zbZ s (defs.map madeC) refs []).1, []⟩], d ++ [[]], 0) else ([], [], (zbZ s (defs.map madeC) refs []).2) := by
 have h1 : zbM 0 (defs.map madeC) keys [] = zbA (defs.map madeC) keys [] := by unfold zbM; rw [if_pos rfl]
 have h2 : zb3 (zbA (defs.map madeC) keys []).2 s (defs.map madeC) refs [] = zbZ s (defs.map madeC) refs [] := by unfold zb3; rw [if_pos h0]
 unfold createP
 rw [h, h1, h2]
theorem zjs {x : S109} (h : defB x = true) : colB (madeC x) = true := by
 unfold defB zeE at h
 unfold colB madeC
 rw [Bool.and_eq_true] at h
 obtain ⟨h1, h2⟩ := h
 simp only [h1, Bool.true_and]
 by_cases q0 : x.f1 = 0
 ·rw [if_pos q0] at h2
  cases q : x.f2 <;> simp_all
 ·by_cases q2 : x.f1 = 2
  ·rw [if_neg q0, if_pos q2] at h2
   cases q : x.f2 <;> simp_all
  ·by_cases q13 : x.f1 = 1 ∨ x.f1 = 3
   ·rw [if_neg q0, if_neg q2, if_pos q13] at h2
    rcases q13 with q13 | q13
    all_goals cases q : x.f2 <;> simp_all
   ·rw [if_neg q0, if_neg q2, if_neg q13] at h2
    cases h2
theorem zkj (l : List S78) : zdk l = (decide (l.length ≤ 8) && (l.all colB && zbJ [] (l.map (·.f0)))) := by
 unfold zdk
 rw [zhn l l.length 0 (by omega), List.drop_zero, List.take_zero, List.drop_zero]
theorem zhy {defs : List S109} (h : ∀ x ∈ defs, defB x = true) (h8 : defs.length ≤ 8) : zdk (defs.map madeC) = distP [] (defs.map fun x => x.f0) := by
 have e1 : (defs.map madeC).all colB = true := List.all_eq_true.2 (fun c hc => by
  obtain ⟨x, hx, rfl⟩ := List.mem_map.1 hc
  exact zjs (h x hx))
 have e2 : (defs.map madeC).map (·.f0) = defs.map fun x => x.f0 := by rw [List.map_map]; rfl
 rw [zkj, e1, e2, List.length_map, decide_eq_true h8, Bool.true_and, Bool.true_and, ← zbD _ [] [] (fun x => Iff.rfl)]
theorem zhI (s : List S49) (cols : List S78) (d : S105) (r : List S105) (rs : List S75) : zbZ s cols (d :: r) rs = if (refS s cols [] d).2 = 0 then zbZ s cols r (rs ++ (refS s cols [] d).1) else (rs ++ (refS s cols [] d).1, (refS s cols [] d).2) := by
 rw [zbZ, zkP s cols rs d]
end Go.Proofs.YthgfdnffnbclpaaGreatDoor.PAll
