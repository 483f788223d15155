import Derived.Test.YthgfdnffnbclpaaGreatDoorSQG21
import Derived.Test.YthgfdnffnbclpaaGreatDoorSQG20
import Derived.Test.YthgfdnffnbclpaaGreatDoorSQG13
set_option linter.unusedVariables false
set_option linter.unusedSimpArgs false
namespace Go.Proofs.YthgfdnffnbclpaaGreatDoor.PAll
open Go.RowKit Go.Proofs.YthgfdnffnbclpaaGreatDoorW.PrintWords Go.Proofs.YthgfdnffnbclpaaGreatDoorW.PrintLast Go.Proofs.YthgfdnffnbclpaaGreatDoorW.PrintMore
def kindsE (cols oc : List S78) (cs ns : List Int) : List Int → Int → Int
 | [], e => e
 | c :: r, e => kindsE cols oc cs ns r (askE e ((rd_T78 cols (rd cs (idxI c 0 ns))).f1 != (rd_T78 oc c).f1) 79)
def refE (cs ns : List Int) (d : S105) : Int :=
 askE (askE (askE (askE (askE 0 (decide (-1 ∈ cs)) 71) (!distP [] d.f0) 70) ((d.f0.length : Int) != (d.f2.length : Int)) 78) (decide (-1 ∈ ns)) 71) (!distP [] d.f2) 71
def refS (s : List S49) (cols : List S78) (refs : List S75) (d : S105) : List S75 × Int :=
 if findP d.f1 0 s < 0 then (refs, 71) else
 if refE (colsN cols d.f0) (colsN (rd_T49 s (findP d.f1 0 s)).f1 d.f2) d = 0 then
  if idxP (fun key => eqI key (sortI (colsN (rd_T49 s (findP d.f1 0 s)).f1 d.f2))) 0 (rd_T49 s (findP d.f1 0 s)).f2 < 0 then (refs, 71)
  else (refs ++ [⟨(sortI (colsN (rd_T49 s (findP d.f1 0 s)).f1 d.f2)).map fun c => rd (colsN cols d.f0) (idxI c 0 (colsN (rd_T49 s (findP d.f1 0 s)).f1 d.f2)), findP d.f1 0 s, idxP (fun key => eqI key (sortI (colsN (rd_T49 s (findP d.f1 0 s)).f1 d.f2))) 0 (rd_T49 s (findP d.f1 0 s)).f2⟩],
   kindsE cols (rd_T49 s (findP d.f1 0 s)).f1 (colsN cols d.f0) (colsN (rd_T49 s (findP d.f1 0 s)).f1 d.f2) (sortI (colsN (rd_T49 s (findP d.f1 0 s)).f1 d.f2)) 0)
 else (refs, refE (colsN cols d.f0) (colsN (rd_T49 s (findP d.f1 0 s)).f1 d.f2) d)
theorem idxP_range {α : Type} (p : α → Bool) : ∀ (l : List α) (i : Nat), idxP p i l = -1 ∨ ((i : Int) ≤ idxP p i l ∧ idxP p i l < (i + l.length : Nat))
 | [], i => .inl rfl
 | x :: r, i => by
  rw [idxP]
  split
  ·right; simp; omega
  ·have := idxP_range p r (i + 1)
   simp at this ⊢; omega
theorem colP_at (nm : ByteArray) : ∀ (l : List S78) (i : Nat), colP nm i l ≠ -1 → ∃ j, j < l.length ∧ colP nm i l = ((i + j : Nat) : Int) ∧ ∃ c, l[j]? = some c ∧ c.f0.toList = nm.toList
 | [], i, h => absurd rfl h
 | t :: r, i, h => by
  rw [colP] at h ⊢
  by_cases q : t.f0.toList = nm.toList
  ·rw [if_pos q]
   exact ⟨0, by simp, rfl, t, rfl, q⟩
  ·rw [if_neg q] at h ⊢
   obtain ⟨j, h1, h2, c, h3, h4⟩ := colP_at nm r (i + 1) h
   exact ⟨j + 1, by simpa using h1, by rw [h2]; omega, c, by simpa using h3, h4⟩
theorem bytes_toList {a b : ByteArray} (h : a.toList = b.toList) : a = b := by
 rw [Lib.toList_data, Lib.toList_data] at h
 exact ByteArray.ext (Array.toList_inj.1 h)
theorem colsN_nodup (cols : List S78) : ∀ (l : List ByteArray), l.Nodup → -1 ∉ colsN cols l → (colsN cols l).Nodup
 | [], _, _ => List.nodup_nil
 | a :: l, hn, h => by
  rw [List.nodup_cons] at hn
  have e : colsN cols (a :: l) = colP a 0 cols :: colsN cols l := rfl
  rw [e] at h ⊢
  have h1 : colP a 0 cols ≠ -1 := fun he => h (by rw [he]; exact List.mem_cons_self)
  refine List.nodup_cons.2 ⟨fun hm => ?_, colsN_nodup cols l hn.2 (fun hm => h (List.mem_cons_of_mem _ hm))⟩
  unfold colsN at hm
  obtain ⟨b, hb, hbe⟩ := List.mem_map.1 hm
  obtain ⟨j, _, g2, c, g3, g4⟩ := colP_at a cols 0 h1
  obtain ⟨j', _, g2', c', g3', g4'⟩ := colP_at b cols 0 (by rw [hbe]; exact h1)
  have hj : j = j' := by omega
  subst hj
  rw [g3] at g3'
  cases g3'
  exact hn.1 (by rw [bytes_toList (g4.symm.trans g4')]; exact hb)
theorem colsN_len (cols : List S78) (l : List ByteArray) : (colsN cols l).length = l.length := List.length_map _
theorem kindsE_snoc (cols oc : List S78) (cs ns : List Int) (c : Int) : ∀ (l : List Int) (e : Int), kindsE cols oc cs ns (l ++ [c]) e = askE (kindsE cols oc cs ns l e) ((rd_T78 cols (rd cs (idxI c 0 ns))).f1 != (rd_T78 oc c).f1) 79
 | [], e => rfl
 | x :: r, e => by
  show kindsE cols oc cs ns (r ++ [c]) _ = _
  rw [kindsE_snoc cols oc cs ns c r]
  rfl
theorem cell_but {a b : World} {g : Nat} {p : Addr} {v : Value} (h : a.grownBy b (some g)) (hc : a.cell? p = some v) (hne : p.block ≠ g) : b.cell? p = some v :=
 (World.cell?_of_block (h.block p.block (World.block_lt_of_cell? a _ hc) (fun e => hne (by injection e)))).trans hc
theorem idxI_spec {c : Int} {l : List Int} (h : c ∈ l) : 0 ≤ idxI c 0 l ∧ idxI c 0 l < (l.length : Int) := by
 have := (idxI_range c l 0).1 h
 omega
structure But2 (g r : Nat) (a b : World) : Prop where
 os : b.os = a.os
 tape : b.tape = a.tape
 output : b.output = a.output
 size : a.heap.size ≤ b.heap.size
 block : ∀ k, k < a.heap.size → k ≠ g → k ≠ r → b.heap[k]? = a.heap[k]?
theorem But2.refl (g r : Nat) (a : World) : But2 g r a a := ⟨rfl, rfl, rfl, Nat.le_refl _, fun _ _ _ _ => rfl⟩
theorem But2.step {g r : Nat} {a b c : World} {o : Option Nat} (h : But2 g r a b) (k : b.grownBy c o) (ho : ∀ j, o = some j → j = g ∨ j = r ∨ a.heap.size ≤ j) : But2 g r a c :=
 ⟨k.os.trans h.os, k.tape.trans h.tape, k.output.trans h.output, Nat.le_trans h.size k.size, fun i hi h1 h2 => (k.block i (Nat.lt_of_lt_of_le hi h.size) (fun e => by have := ho i e.symm; omega)).trans (h.block i hi h1 h2)⟩
theorem But2.row {α : Type} {d : Kd α} {e base g r tg tr : Nat} {a b : World} {v : Value} {xs : List α} {cg cr : Array Value} (h : d.R e a base (fun _ => True) v xs) (hg : a.heap[g]? = some (.cells cg tg (0, 0))) (hr : a.heap[r]? = some (.cells cr tr (0, 0))) (h1 : ∀ q, q ∈ e :: d.E → q ≠ tg) (h2 : ∀ q, q ∈ e :: d.E → q ≠ tr) (hb : But2 g r a b) : d.R e b base (fun _ => True) v xs :=
 Kd.R_mono (Kd.R_step (Kd.R_types (Kd.R_types h hg h1) hr h2) (fun k hk hl => hb.block k hl hk.1.2 hk.2)) (fun _ _ => trivial)
theorem But2.belowB {g r B : Nat} {a b : World} (h : But2 g r a b) (h1 : B ≤ a.heap.size) (h2 : B ≤ g) (h3 : B ≤ r) : Below B a b :=
 ⟨h.os, h.tape, h.output, h.size, fun k hk => h.block k (by omega) (by omega) (by omega)⟩
theorem and9 {a b c d e f g h i p q r s t : Prop} (x : a ∧ b ∧ c ∧ d ∧ e ∧ f ∧ g ∧ h ∧ i) (y : p ∧ q ∧ r ∧ s ∧ t) : a ∧ b ∧ c ∧ d ∧ e ∧ f ∧ g ∧ h ∧ i ∧ p ∧ q ∧ r ∧ s ∧ t :=
 ⟨x.1, x.2.1, x.2.2.1, x.2.2.2.1, x.2.2.2.2.1, x.2.2.2.2.2.1, x.2.2.2.2.2.2.1, x.2.2.2.2.2.2.2.1, x.2.2.2.2.2.2.2.2, y⟩
set_option maxHeartbeats 4000000 in
set_option maxRecDepth 100000 in
theorem ref_walk (w0 : World) (g : Nat) (As : Option Addr) (cs0 : Nat) (s : List S49) (nm : ByteArray) (cols : List S78) (keys : List (List Int)) (refs : List S75) (A0 : Option Addr) (c0 : Nat) (A2 : Option Addr) (c2 : Nat) (d : S105) (w : World)
  (hS : Kd.C k49 w0 As s.length s) (hcs : s.length ≤ cs0) (hr0 : Kd.C Kd.string w0 A0 d.f0.length d.f0) (hc0 : d.f0.length ≤ c0) (hr2 : Kd.C Kd.string w0 A2 d.f2.length d.f2) (hc2 : d.f2.length ≤ c2)
  (hB : Bd g w0.heap.size (.slice As s.length cs0) nm cols keys refs 0 w) (hW : Below w0.heap.size w0 w)
  (hs0 : d.f0.length ≤ 2000000) (hs2 : d.f2.length ≤ 2000000) (hz0 : ∀ x ∈ d.f0, x.size ≤ 9223372036854775807) (hz2 : ∀ x ∈ d.f2, x.size ≤ 9223372036854775807) (hcl : cols.length ≤ 8) (htl : ∀ t ∈ s, t.f1.length ≤ 8) (hrl : refs.length ≤ 2000000) (hsl : s.length ≤ 2000000) :
  Calls Tryz.prog 68 #[.pointer (some ⟨g, 0, none⟩), .agg #[.slice A0 d.f0.length c0, .string d.f1, .slice A2 d.f2.length c2]] w fun e w' => e = .returned (.tuple #[]) ∧ Bd g w0.heap.size (.slice As s.length cs0) nm cols keys (refS s cols refs d).1 (refS s cols refs d).2 w' ∧ Below w0.heap.size w w' := by
 obtain ⟨hbg, v1, v2, v3, hb, h1, h2, h3⟩ := hB
 obtain ⟨A1, c1, e1⟩ := Kd.R_slice h1
 obtain ⟨Ak, ck, e2⟩ := Kd.R_slice h2
 obtain ⟨A3, c3, e3⟩ := Kd.R_slice h3
 subst e1 e2 e3
 have HBG := Aside0.mk hbg
 have HBK := Aside0.mk hb
 have H1 := Aside0.mk h1
 have H2 := Aside0.mk h2
 have H3 := Aside0.mk h3
 have HW := Aside0.mk hW
 have hgs := blk_lt hb
 have HGS := Aside0.mk hgs
 have hba : Below w.heap.size w (w.alloc (Obj.cells #[.slice A0 d.f0.length c0, .string d.f1, .slice A2 d.f2.length c2] 105)) := (Below.refl _ _).alloc (Nat.le_refl _) _
 have hbx := Go.Deep.blk_alloc_new w (Obj.cells #[.slice A0 d.f0.length c0, .string d.f1, .slice A2 d.f2.length c2] 105)
 obtain ⟨WB, hWB⟩ : ∃ W, W = w.alloc (Obj.cells #[.slice A0 d.f0.length c0, .string d.f1, .slice A2 d.f2.length c2] 105) := ⟨_, rfl⟩
 rw [← hWB] at hba hbx
 have hbB := (hba.block g hgs).trans hb
 have HBB := Aside0.mk hbB
 have HBX := Aside0.mk hbx
 have HBA := Aside0.mk hba
 have HWB := Aside0.mk (hW.trans (hba.mono hW.size))
 have HF : Aside0 (∀ W, Below w0.heap.size w0 W → Calls Tryz.prog 33 #[.slice As s.length cs0, .string d.f1] W fun e w' => e = .returned (.int .i64 (findP d.f1 0 s)) ∧ Below W.heap.size W w') := ⟨fun W hW => scheme_find.calls As cs0 s d.f1 _ W (Kd.C_below hS hW) hcs rfl⟩
 have KS : Aside0 (∀ (W : World) (e : Int), W.heap[g]? = some (.cells #[.slice As s.length cs0, .string nm, .slice A1 cols.length c1, .slice Ak keys.length ck, .slice A3 refs.length c3, .slice none 0 0, .int .i64 e] 118 (0, 0)) → W.heap[w.heap.size]? = some (.cells #[.slice A0 d.f0.length c0, .string d.f1, .slice A2 d.f2.length c2] 105 (0, 0)) → W.cell? ⟨g, 0, none⟩ = some (.slice As s.length cs0) ∧ W.cell? ⟨g, 1, none⟩ = some (.string nm) ∧ W.cell? ⟨g, 2, none⟩ = some (.slice A1 cols.length c1) ∧ W.cell? ⟨g, 3, none⟩ = some (.slice Ak keys.length ck) ∧ W.cell? ⟨g, 4, none⟩ = some (.slice A3 refs.length c3) ∧ W.cell? ⟨g, 5, none⟩ = some (.slice none 0 0) ∧ W.cell? ⟨w.heap.size, 0, none⟩ = some (.slice A0 d.f0.length c0) ∧ W.cell? ⟨w.heap.size, 1, none⟩ = some (.string d.f1) ∧ W.cell? ⟨w.heap.size, 2, none⟩ = some (.slice A2 d.f2.length c2)) := ⟨fun W e q1 q2 => by
  obtain ⟨y0, y1, y2, y3, y4, y5, _⟩ := seven_at q1
  exact ⟨y0, y1, y2, y3, y4, y5, (blk_cell q2 0).trans rfl, (blk_cell q2 1).trans rfl, (blk_cell q2 2).trans rfl⟩⟩
 have HN1 : Aside0 (∀ (e : Int) (W : World), W.heap[g]? = some (.cells #[.slice As s.length cs0, .string nm, .slice A1 cols.length c1, .slice Ak keys.length ck, .slice A3 refs.length c3, .slice none 0 0, .int .i64 e] 118 (0, 0)) → Kd.C k78 W A1 cols.length cols → cols.length ≤ c1 → Below w0.heap.size w0 W → Calls Tryz.prog 115 #[.pointer (some ⟨g, 0, none⟩), .agg #[.string nm, .slice A1 cols.length c1, .slice Ak keys.length ck, .slice A3 refs.length c3, .slice none 0 0], .slice A0 d.f0.length c0] W
   fun e_ w' => ∃ (A : Option Addr) (cc : Nat), e_ = .returned (.slice A (colsN cols d.f0).length cc) ∧ (Kd.int .i64).R 3 w' W.heap.size (fun _ => True) (.slice A (colsN cols d.f0).length cc) (colsN cols d.f0) ∧ w'.heap[g]? = some (.cells #[.slice As s.length cs0, .string nm, .slice A1 cols.length c1, .slice Ak keys.length ck, .slice A3 refs.length c3, .slice none 0 0, .int .i64 (askE e (decide (-1 ∈ colsN cols d.f0)) 71)] 118 (0, 0)) ∧ W.grownBy w' (some g)) := ⟨fun e W q1 q2 q3 q4 => numbers_walk g _ _ _ _ _ _ e nm A1 c1 cols Ak keys.length ck A3 refs.length c3 none 0 0 A0 c0 d.f0 W q1 q2 q3 (Kd.C_below hr0 q4) hc0 hs0⟩
 have HD0 : Aside0 (∀ W, Below w0.heap.size w0 W → Calls Tryz.prog 64 #[.slice A0 d.f0.length c0] W fun e w' => e = .returned (.bool (distP [] d.f0)) ∧ Below W.heap.size W w') := ⟨fun W q => scheme_distinct_string.calls A0 c0 d.f0 _ W (Kd.C_below hr0 q) hc0 (by unfold scheme_distinct_string.f; rw [if_pos (List.all_eq_true.2 (fun x hx => decide_eq_true (hz0 x hx)))])⟩
 have HD2 : Aside0 (∀ W, Below w0.heap.size w0 W → Calls Tryz.prog 64 #[.slice A2 d.f2.length c2] W fun e w' => e = .returned (.bool (distP [] d.f2)) ∧ Below W.heap.size W w') := ⟨fun W q => scheme_distinct_string.calls A2 c2 d.f2 _ W (Kd.C_below hr2 q) hc2 (by unfold scheme_distinct_string.f; rw [if_pos (List.all_eq_true.2 (fun x hx => decide_eq_true (hz2 x hx)))])⟩
 have HHS := Aside0.mk hS
 have HR2 := Aside0.mk hr2
 generalize hR : refS s cols refs d = rr
 obtain ⟨r1, r2⟩ := rr
 have HR := Aside0.mk hR
 have hwx : w.heap.size ≠ g := by omega
 have HWX := Aside0.mk hwx
 clear hb h1 h2 h3 hgs hba hbx hbB hR hS hr0 hr2 hW hbg hz0 hz2 hwx
 unfold refS at HR
 have hrange := findP_range d.f1 s 0
 generalize findP d.f1 0 s = n at *
 have KB := KS.out WB 0 HBB.out HBX.out
 go_enter Tryz.func68, Tryz.ntmps68
 go_wp2
 rw [← hWB]
 clear hWB
 go_region_held3 (fun W => W.cell? ⟨g, 0, none⟩ = some (.slice As s.length cs0) ∧ W.cell? ⟨g, 1, none⟩ = some (.string nm) ∧ W.cell? ⟨g, 2, none⟩ = some (.slice A1 cols.length c1) ∧ W.cell? ⟨g, 3, none⟩ = some (.slice Ak keys.length ck) ∧ W.cell? ⟨g, 4, none⟩ = some (.slice A3 refs.length c3) ∧ W.cell? ⟨g, 5, none⟩ = some (.slice none 0 0) ∧ W.cell? ⟨w.heap.size, 0, none⟩ = some (.slice A0 d.f0.length c0) ∧ W.cell? ⟨w.heap.size, 1, none⟩ = some (.string d.f1) ∧ W.cell? ⟨w.heap.size, 2, none⟩ = some (.slice A2 d.f2.length c2)) (first | exact KB | exact KS.out _ 0 ((hb1.block g (blk_lt HBB.out)).trans HBB.out) ((hb1.block _ (blk_lt HBX.out)).trans HBX.out)) ((go_at_call 33; refine (HF.out _ (below_drew1 HWB.out)).mono ?_; rintro e w1 ⟨rfl, hb1⟩))
 have HB1 := Aside0.mk ((hb1.block g (blk_lt HBB.out)).trans HBB.out)
 have HX1 := Aside0.mk ((hb1.block _ (blk_lt HBX.out)).trans HBX.out)
 have HG1 := Aside0.mk (grown_below (below_step (below_drew1 (Below.refl _ _)) hb1) (some g))
 clear hb1 KB HF
 by_cases q : n < 0
 case pos =>
  have hr := HR.out
  rw [if_pos q] at hr
  cases hr
  have d1 : decide (n < 0) = true := decide_eq_true q
  clear q hrange
  have a1 : (askE 0 true 71 == 0) = false := by decide
  go_wp2_with (go_at_call 63; refine (ask_walk g _ _ _ _ _ _ _ _ _ _ HB1.out).mono ?_; rintro e w2 ⟨rfl, hb2, hg2⟩)
  have HGW := Aside0.mk (grown_trans (grown_below HBA.out (some g)) (grown_trans HG1.out hg2))
  refine bodyPost_ret (results_none rfl _ _ _) rfl ?_
  exact ⟨rfl, ⟨HBG.out, _, _, _, hb2, R_but H1.out HBK.out (by decide) HGW.out, R_but H2.out HBK.out (by decide) HGW.out, R_but H3.out HBK.out (by decide) HGW.out⟩, grown_belowB HGW.out HW.out.size HBG.out⟩
 case neg =>
  have d1 : decide (n < 0) = false := decide_eq_false q
  obtain ⟨m, rfl⟩ : ∃ m : Nat, n = (m : Int) := ⟨n.toNat, by omega⟩
  have hms : m < s.length := by omega
  have hmi : (m : Int) < (s.length : Int) := by omega
  rw [if_neg q] at HR
  obtain ⟨aa, P1, p1, P2, p2, P3, p3, P4, p4, haa, u0, u1, u2, u3, u4, m1, C1, m2, C2, m3, C3, m4, C4⟩ := at_T49 HHS.out (m : Int) (by omega) hmi
  subst haa
  have htm : rd_T49 s (m : Int) ∈ s := rd49_mem (by omega) hmi
  have htl2 := htl _ htm
  generalize rd_T49 s (m : Int) = t at *
  rw [Int.toNat_natCast] at u0 u1 u2 u3 u4
  have KT : Aside0 (∀ W, Below w0.heap.size w0 W → W.cell? (aa.add (m * 5)) = some (.string t.f0) ∧ W.cell? ⟨(aa.add (m * 5)).block, (aa.add (m * 5)).off + 1, none⟩ = some (.slice P1 t.f1.length p1) ∧ W.cell? ⟨(aa.add (m * 5)).block, (aa.add (m * 5)).off + 2, none⟩ = some (.slice P2 t.f2.length p2) ∧ W.cell? ⟨(aa.add (m * 5)).block, (aa.add (m * 5)).off + 3, none⟩ = some (.slice P3 t.f3.length p3) ∧ W.cell? ⟨(aa.add (m * 5)).block, (aa.add (m * 5)).off + 4, none⟩ = some (.slice P4 t.f4.length p4)) := ⟨fun W hW => ⟨(hW.cell (World.block_lt_of_cell? w0 _ u0)).trans u0, (hW.cell (World.block_lt_of_cell? w0 _ u1)).trans u1, (hW.cell (World.block_lt_of_cell? w0 _ u2)).trans u2, (hW.cell (World.block_lt_of_cell? w0 _ u3)).trans u3, (hW.cell (World.block_lt_of_cell? w0 _ u4)).trans u4⟩⟩
  have HN2 : Aside0 (∀ (e : Int) (W : World), W.heap[g]? = some (.cells #[.slice (some aa) s.length cs0, .string nm, .slice A1 cols.length c1, .slice Ak keys.length ck, .slice A3 refs.length c3, .slice none 0 0, .int .i64 e] 118 (0, 0)) → Below w0.heap.size w0 W → Calls Tryz.prog 115 #[.pointer (some ⟨g, 0, none⟩), .agg #[.string t.f0, .slice P1 t.f1.length p1, .slice P2 t.f2.length p2, .slice P3 t.f3.length p3, .slice P4 t.f4.length p4], .slice A2 d.f2.length c2] W
   fun e_ w' => ∃ (A : Option Addr) (cc : Nat), e_ = .returned (.slice A (colsN t.f1 d.f2).length cc) ∧ (Kd.int .i64).R 3 w' W.heap.size (fun _ => True) (.slice A (colsN t.f1 d.f2).length cc) (colsN t.f1 d.f2) ∧ w'.heap[g]? = some (.cells #[.slice (some aa) s.length cs0, .string nm, .slice A1 cols.length c1, .slice Ak keys.length ck, .slice A3 refs.length c3, .slice none 0 0, .int .i64 (askE e (decide (-1 ∈ colsN t.f1 d.f2)) 71)] 118 (0, 0)) ∧ W.grownBy w' (some g)) := ⟨fun e W q1 q4 => numbers_walk g _ _ _ _ _ _ e t.f0 P1 p1 t.f1 P2 _ p2 P3 _ p3 P4 _ p4 A2 c2 d.f2 W q1 (Kd.C_below C1 q4) m1 (Kd.C_below HR2.out q4) hc2 hs2⟩
  have HC2 := Aside0.mk C2
  have HC1 := Aside0.mk C1
  clear u0 u1 u2 u3 u4 C1 C2 C3 C4 m3 m4 htm q hrange htl
  have a2 : (askE 0 false 71 == 0) = true := by decide
  have a3 : askE 0 false 71 = 0 := by decide
  go_wp2_with (go_at_call 63; refine (ask_walk g _ _ _ _ _ _ _ _ _ _ HB1.out).mono ?_; rintro e w2 ⟨rfl, hb2, hg2⟩)
  rw [a3] at hb2
  have HB2 := Aside0.mk (blk_drew hb2)
  have HG2 := Aside0.mk (grown_trans (grown_trans HG1.out hg2) (grown_drew w2 (some g)))
  have HX2 := Aside0.mk (blk_grown HBX.out HG2.out (fun he => HWX.out (by injection he)))
  have HL2 := Aside0.mk (HWB.out.trans (grown_belowB HG2.out HWB.out.size HBG.out))
  have HCC := Aside0.mk (Kd.R_reads' (R_but H1.out HBK.out (by decide) (grown_trans (grown_below HBA.out (some g)) HG2.out)))
  clear hb2 hg2 HB1 HX1
  go_region_held3 (fun W => W.cell? ⟨g, 0, none⟩ = some (.slice (some aa) s.length cs0) ∧ W.cell? ⟨g, 1, none⟩ = some (.string nm) ∧ W.cell? ⟨g, 2, none⟩ = some (.slice A1 cols.length c1) ∧ W.cell? ⟨g, 3, none⟩ = some (.slice Ak keys.length ck) ∧ W.cell? ⟨g, 4, none⟩ = some (.slice A3 refs.length c3) ∧ W.cell? ⟨g, 5, none⟩ = some (.slice none 0 0) ∧ W.cell? ⟨w.heap.size, 0, none⟩ = some (.slice A0 d.f0.length c0) ∧ W.cell? ⟨w.heap.size, 1, none⟩ = some (.string d.f1) ∧ W.cell? ⟨w.heap.size, 2, none⟩ = some (.slice A2 d.f2.length c2)) (first | exact KS.out _ 0 HB2.out HX2.out | exact KS.out _ _ hb3 hx3) ((go_at_call 115; refine (HN1.out 0 _ HB2.out HCC.out.2.2 HCC.out.2.1 HL2.out).mono ?_; rintro e w3 ⟨A5, c5, rfl, hn3, hb3, hg3⟩; have hx3 := blk_grown HX2.out hg3 (fun he => HWX.out (by injection he))))
  have HB3 := Aside0.mk hb3
  have HG3 := Aside0.mk (grown_trans HG2.out hg3)
  have HX3 := Aside0.mk hx3
  have HN3 := Aside0.mk hn3
  have HL3 := Aside0.mk (HWB.out.trans (grown_belowB HG3.out HWB.out.size HBG.out))
  clear hb3 hg3 hx3 hn3 HCC HN1 HB2 HX2 HL2
  generalize hcsg : colsN cols d.f0 = cs at *
  have HCSG := Aside0.mk hcsg
  generalize hnsg : colsN t.f1 d.f2 = ns at *
  have HNSG := Aside0.mk hnsg
  clear hcsg hnsg
  obtain ⟨k0, k1, k2, k3, k4, k5, b0, b1, b2⟩ := KS.out _ _ HB3.out HX3.out
  unfold refE at HR
  generalize distP [] d.f0 = q0 at *
  generalize hq2 : distP [] d.f2 = q2 at *
  have HQ2 := Aside0.mk hq2
  clear hq2
  obtain ⟨bl, hbl⟩ : ∃ b, ((d.f0.length : Int) != (d.f2.length : Int)) = b := ⟨_, rfl⟩
  have hbl2 : ((d.f0.length : Int) == (d.f2.length : Int)) = !bl := by rw [← hbl, bne, Bool.not_not]
  rw [hbl] at HR
  have HBL := Aside0.mk hbl
  generalize hmc : decide (-1 ∈ cs) = mc at *
  have HMC := Aside0.mk hmc
  clear hmc
  go_wp2_with (first
   | (go_at_call 64; refine (HD0.out _ HL3.out).mono ?_; rintro e w4 ⟨rfl, hb4⟩; have HB4 := Aside0.mk ((hb4.block g (blk_lt HB3.out)).trans HB3.out); have HG4 := Aside0.mk (grown_trans HG3.out (grown_below hb4 (some g))); have HN4 := Aside0.mk (Kd.R_below HN3.out hb4); clear hb4 HD0 HB3 HG3 HN3 HX3 HL3)
   | (go_at_call 63; refine (ask_walk g _ _ _ _ _ _ _ _ _ _ HB4.out).mono ?_; rintro e w5 ⟨rfl, hb5, hg5⟩; have HN5 := Aside0.mk (R_but HN4.out HB4.out (by decide) hg5); clear HB4; have HB5 := Aside0.mk hb5; have HG5 := Aside0.mk (grown_trans HG4.out hg5); have HX5 := Aside0.mk (blk_grown HBX.out HG5.out (fun he => HWX.out (by injection he))); clear hb5 hg5 HG4 HN4 k0 k1 k2 k3 k4 k5 b0 b1 b2; obtain ⟨k0, k1, k2, k3, k4, k5, b0, b1, b2⟩ := KS.out _ _ HB5.out HX5.out)
   | (go_at_call 63; refine (ask_walk g _ _ _ _ _ _ _ _ _ _ HB5.out).mono ?_; rintro e w6 ⟨rfl, hb6, hg6⟩; have HN6 := Aside0.mk (R_but HN5.out HB5.out (by decide) hg6); clear HB5; have HB6 := Aside0.mk hb6; have HG6 := Aside0.mk (grown_trans HG5.out hg6); clear hb6 hg6 HG5 HN5 HX5 k0 k1 k2 k3 k4 k5 b0 b1 b2))
  generalize he4 : askE (askE (askE 0 mc 71) (!q0) 70) bl 78 = e4 at *
  have HE4 := Aside0.mk he4
  clear he4
  have HB7 := Aside0.mk (blk_drew HB6.out)
  have HG7 := Aside0.mk (grown_trans HG6.out (grown_drew w6 (some g)))
  have HX7 := Aside0.mk (blk_grown HBX.out HG7.out (fun he => HWX.out (by injection he)))
  have HL7 := Aside0.mk (HWB.out.trans (grown_belowB HG7.out HWB.out.size HBG.out))
  have HN7 := Aside0.mk (Kd.R_drew HN6.out)
  clear HB6 HG6 HN6
  go_region_held3 (fun W => W.cell? ⟨g, 0, none⟩ = some (.slice (some aa) s.length cs0) ∧ W.cell? ⟨g, 1, none⟩ = some (.string nm) ∧ W.cell? ⟨g, 2, none⟩ = some (.slice A1 cols.length c1) ∧ W.cell? ⟨g, 3, none⟩ = some (.slice Ak keys.length ck) ∧ W.cell? ⟨g, 4, none⟩ = some (.slice A3 refs.length c3) ∧ W.cell? ⟨g, 5, none⟩ = some (.slice none 0 0) ∧ W.cell? ⟨w.heap.size, 0, none⟩ = some (.slice A0 d.f0.length c0) ∧ W.cell? ⟨w.heap.size, 1, none⟩ = some (.string d.f1) ∧ W.cell? ⟨w.heap.size, 2, none⟩ = some (.slice A2 d.f2.length c2) ∧ W.cell? (aa.add (m * 5)) = some (.string t.f0) ∧ W.cell? ⟨(aa.add (m * 5)).block, (aa.add (m * 5)).off + 1, none⟩ = some (.slice P1 t.f1.length p1) ∧ W.cell? ⟨(aa.add (m * 5)).block, (aa.add (m * 5)).off + 2, none⟩ = some (.slice P2 t.f2.length p2) ∧ W.cell? ⟨(aa.add (m * 5)).block, (aa.add (m * 5)).off + 3, none⟩ = some (.slice P3 t.f3.length p3) ∧ W.cell? ⟨(aa.add (m * 5)).block, (aa.add (m * 5)).off + 4, none⟩ = some (.slice P4 t.f4.length p4)) (first | exact and9 (KS.out _ _ HB7.out HX7.out) (KT.out _ HL7.out) | exact and9 (KS.out _ _ hb8 hx8) (KT.out _ hl8)) ((go_at_call 115; refine (HN2.out _ _ HB7.out HL7.out).mono ?_; rintro e w8 ⟨A6, c6, rfl, hn8, hb8, hg8⟩; have hx8 := blk_grown HX7.out hg8 (fun he => HWX.out (by injection he)); have hl8 := HWB.out.trans (grown_belowB (grown_trans HG7.out hg8) HWB.out.size HBG.out)))
  have HB8 := Aside0.mk hb8
  have HG8 := Aside0.mk (grown_trans HG7.out hg8)
  have HX8 := Aside0.mk hx8
  have HN8 := Aside0.mk hn8
  have HC8 := Aside0.mk (R_but HN7.out HB7.out (by decide) hg8)
  have HL8 := Aside0.mk hl8
  clear hb8 hg8 hx8 hn8 hl8 HB7 HX7 HL7 HN7 HN2 hbl hbl2
  generalize hmn : decide (-1 ∈ ns) = mn at *
  have HMN := Aside0.mk hmn
  clear hmn
  obtain ⟨k0, k1, k2, k3, k4, k5, b0, b1, b2⟩ := KS.out _ _ HB8.out HX8.out
  by_cases he6 : askE (askE e4 mn 71) (!q2) 71 = 0
  case neg =>
   have hr := HR.out
   rw [if_neg he6] at hr
   cases hr
   have d6 : (askE (askE e4 mn 71) (!q2) 71 == 0) = false := beq_eq_false_iff_ne.mpr he6
   clear he6
   go_wp2_with (first
    | (go_at_call 64; refine (HD2.out _ HL8.out).mono ?_; rintro e w9 ⟨rfl, hb9⟩; have HB9 := Aside0.mk ((hb9.block g (blk_lt HB8.out)).trans HB8.out); have HG9 := Aside0.mk (grown_trans HG8.out (grown_below hb9 (some g))); clear hb9 HD2)
    | (go_at_call 63; refine (ask_walk g _ _ _ _ _ _ _ _ _ _ HB9.out).mono ?_; rintro e w10 ⟨rfl, hb10, hg10⟩; have HGW := Aside0.mk (grown_trans (grown_below HBA.out (some g)) (grown_trans HG9.out hg10))))
   refine bodyPost_ret (results_none rfl _ _ _) rfl ?_
   exact ⟨rfl, ⟨HBG.out, _, _, _, hb10, R_but H1.out HBK.out (by decide) HGW.out, R_but H2.out HBK.out (by decide) HGW.out, R_but H3.out HBK.out (by decide) HGW.out⟩, grown_belowB HGW.out HW.out.size HBG.out⟩
  case pos =>
   rw [if_pos he6] at HR
   obtain ⟨g1, g2⟩ := askE_zero (by decide) he6
   obtain ⟨g3, g4⟩ := askE_zero (by decide) g1
   obtain ⟨g5, g6⟩ := askE_zero (by decide) (HE4.out.trans g3)
   obtain ⟨g7, g8⟩ := askE_zero (by decide) g5
   obtain ⟨g9, g10⟩ := askE_zero (by decide) g7
   have e2 : distP [] d.f2 = true := by rw [HQ2.out]; simpa using g2
   have hnn : -1 ∉ ns := by have := HMN.out; rw [g4] at this; simpa using this
   have hcn : -1 ∉ cs := by have := HMC.out; rw [g10] at this; simpa using this
   have hll : d.f0.length = d.f2.length := by
    have h1 := HBL.out
    rw [g6] at h1
    have h2 : (d.f0.length : Int) = (d.f2.length : Int) := by simpa using h1
    omega
   have hnl : ns.length = d.f0.length := by rw [← HNSG.out, colsN_len, hll]
   have hcl2 : cs.length = d.f0.length := by rw [← HCSG.out, colsN_len]
   have hnr : ∀ x ∈ ns, 0 ≤ x ∧ x < (t.f1.length : Int) := fun x hx => (colsN_range t.f1 d.f2 x (by rw [HNSG.out]; exact hx)).elim (fun e => absurd (e ▸ hx) hnn) id
   have hcr : ∀ x ∈ cs, 0 ≤ x ∧ x < (cols.length : Int) := fun x hx => (colsN_range cols d.f0 x (by rw [HCSG.out]; exact hx)).elim (fun e => absurd (e ▸ hx) hcn) id
   have hnd : ns.length ≤ 8 := Nat.le_trans (nodup_len ns t.f1.length (by rw [← HNSG.out]; exact colsN_nodup t.f1 d.f2 (distP_nodup _ _ e2).1 (by rw [HNSG.out]; exact hnn)) hnr) htl2
   have d6 : (askE (askE e4 mn 71) (!q2) 71 == 0) = true := beq_iff_eq.mpr he6
   have HE6 := Aside0.mk he6
   have HNR := Aside0.mk hnr
   have HCR := Aside0.mk hcr
   have HNL := Aside0.mk hnl
   have HCL2 := Aside0.mk hcl2
   clear hnl hcl2 he6 g1 g2 g3 g4 g5 g6 g7 g8 g9 g10 e2 hnn hcn hll hnr hcr
   have HPM := Aside0.mk (sortI_perm ns)
   have HPS := Aside0.mk (sortI_sorted ns)
   generalize sortI ns = so at *
   have HSL := Aside0.mk HPM.out.length_eq
   go_upto_region 9 with (first
    | (go_at_call 64; refine (HD2.out _ HL8.out).mono ?_; rintro e w9 ⟨rfl, hb9⟩; have HB9 := Aside0.mk ((hb9.block g (blk_lt HB8.out)).trans HB8.out); have HG9 := Aside0.mk (grown_trans HG8.out (grown_below hb9 (some g))); have HN9 := Aside0.mk (Kd.R_below HN8.out hb9); have HC9 := Aside0.mk (Kd.R_below HC8.out hb9); clear hb9 HD2 HB8 HG8 HN8 HC8 HX8 HL8)
    | (go_at_call 63; refine (ask_walk g _ _ _ _ _ _ _ _ _ _ HB9.out).mono ?_; rintro e w10 ⟨rfl, hb10, hg10⟩; rw [HE6.out] at hb10; have HN10 := Aside0.mk (R_but HN9.out HB9.out (by decide) hg10); have HC10 := Aside0.mk (R_but HC9.out HB9.out (by decide) hg10); have HB10 := Aside0.mk hb10; have HG10 := Aside0.mk (grown_trans HG9.out hg10); clear hb10 hg10 HG9 HB9 HN9 HC9)
    | (go_at_call 119; refine (values_walk A6 ns.length c6 w10).mono ?_; rintro e w11 ⟨rfl, hw11⟩; have hbl11 : Below w10.heap.size w10 w11 := (by rw [hw11]; exact (Below.refl _ _).alloc (Nat.le_refl _) _); have hx11 : w11.cell? ⟨w10.heap.size, 0, none⟩ = some (.slice A6 ns.length c6) := (by rw [hw11]; exact (blk_cell (Go.Deep.blk_alloc_new _ _) 0).trans rfl); have hs11 : w10.heap.size < w11.heap.size := (by rw [hw11]; show _ < (w10.heap.push _).size; simp); have HSV := Aside0.mk (sortedV_walk w10.heap.size _ ns so (by omega) w11 hs11 hx11 (intsAt_of (Kd.R_below HN10.out hbl11) (Nat.le_refl _)) HPM.out HPS.out); have HBL11 := Aside0.mk hbl11; clear hw11 hbl11 hx11 hs11)
    | (go_at_call 118; refine HSV.out.mono ?_; rintro e w12 ⟨v7, rfl, hs12, hb12⟩; obtain ⟨A7, c7, e7⟩ := Kd.R_slice hs12; subst e7; have HS12 := Aside0.mk hs12; have HBL12 := Aside0.mk (below_step HBL11.out hb12); clear hs12 hb12 HBL11 HSV))
   have hba13 : Below w12.heap.size w12 (w12.alloc (Obj.cells #[.slice A7 so.length c7] 70)) := (Below.refl _ _).alloc (Nat.le_refl _) _
   have hx13 : (w12.alloc (Obj.cells #[.slice A7 so.length c7] 70)).cell? ⟨w12.heap.size, 0, none⟩ = some (.slice A7 so.length c7) := (blk_cell (Go.Deep.blk_alloc_new _ _) 0).trans rfl
   have hsz13 : (w12.alloc (Obj.cells #[.slice A7 so.length c7] 70)).heap.size = w12.heap.size + 1 := Array.size_push _
   have hy13 := Go.Deep.blk_alloc_new w12 (Obj.cells #[.slice A7 so.length c7] 70)
   generalize (w12.alloc (Obj.cells #[.slice A7 so.length c7] 70)) = w13 at *
   have HB13 := Aside0.mk ((hba13.block g (Nat.lt_of_lt_of_le (blk_lt HB10.out) HBL12.out.size)).trans ((HBL12.out.block g (blk_lt HB10.out)).trans HB10.out))
   have HBL13 := Aside0.mk (below_step HBL12.out hba13)
   have HG13 := Aside0.mk (grown_trans HG10.out (grown_below HBL13.out (some g)))
   have HX13 := Aside0.mk (blk_grown HBX.out HG13.out (fun he => HWX.out (by injection he)))
   have HL13 := Aside0.mk (HWB.out.trans (grown_belowB HG13.out HWB.out.size HBG.out))
   have HN13 := Aside0.mk (Kd.R_below HN10.out HBL13.out)
   have HC13 := Aside0.mk (Kd.R_below HC10.out HBL13.out)
   have HS13 := Aside0.mk (Kd.R_below HS12.out hba13)
   have HT13 := Aside0.mk hx13
   have HTB13 := Aside0.mk hy13
   have HSZ13 := Aside0.mk hsz13
   clear hba13 hx13 hsz13 hy13 HB10 HN10 HC10 HS12 HBL12 HBL13
   obtain ⟨k0, k1, k2, k3, k4, k5, b0, b1, b2⟩ := KS.out _ _ HB13.out HX13.out
   obtain ⟨y0, y1, y2, y3, y4⟩ := KT.out _ HL13.out
   have HIK := Aside0.mk (idxKey_walk P2 p2 t.f2 w12.heap.size A7 c7 so w13 (Kd.C_below HC2.out HL13.out) m2 (Kd.R_reads' HS13.out).2.2 (Kd.R_reads' HS13.out).2.1 HT13.out)
   have hkr := idxP_range (fun key => eqI key so) t.f2 0
   generalize idxP (fun key => eqI key so) 0 t.f2 = kk at *
   by_cases hk0 : kk < 0
   case pos =>
    have hr := HR.out
    rw [if_pos hk0] at hr
    cases hr
    have d7 : decide (kk < 0) = true := decide_eq_true hk0
    have a1 : (askE 0 true 71 == 0) = false := by decide
    clear hk0 hkr
    go_wp2_with (first
     | (go_at_call 120; refine HIK.out.mono ?_; rintro e w14 ⟨rfl, hb14⟩; have HB14 := Aside0.mk ((hb14.block g (blk_lt HB13.out)).trans HB13.out); have HG14 := Aside0.mk (grown_trans HG13.out (grown_below hb14 (some g))); clear hb14)
     | (go_at_call 63; refine (ask_walk g _ _ _ _ _ _ _ _ _ _ HB14.out).mono ?_; rintro e w15 ⟨rfl, hb15, hg15⟩; have HGW := Aside0.mk (grown_trans (grown_below HBA.out (some g)) (grown_trans HG14.out hg15))))
    refine bodyPost_ret (results_none rfl _ _ _) rfl ?_
    exact ⟨rfl, ⟨HBG.out, _, _, _, hb15, R_but H1.out HBK.out (by decide) HGW.out, R_but H2.out HBK.out (by decide) HGW.out, R_but H3.out HBK.out (by decide) HGW.out⟩, grown_belowB HGW.out HW.out.size HBG.out⟩
   case neg =>
    rw [if_neg hk0] at HR
    have d7 : decide (kk < 0) = false := decide_eq_false hk0
    obtain ⟨kn, rfl⟩ : ∃ k : Nat, kk = (k : Int) := ⟨kk.toNat, by omega⟩
    have a2 : (askE 0 false 71 == 0) = true := by decide
    have a3 : askE 0 false 71 = 0 := by decide
    have HNT := Aside0.mk (blk_ne HTB13.out HB13.out (by decide))
    clear hk0 hkr
    go_wp2_with (first
     | (go_at_call 120; refine HIK.out.mono ?_; rintro e w14 ⟨rfl, hb14⟩; have HB14 := Aside0.mk ((hb14.block g (blk_lt HB13.out)).trans HB13.out); have HBE14 := Aside0.mk hb14; clear hb14)
     | (go_at_call 63; refine (ask_walk g _ _ _ _ _ _ _ _ _ _ HB14.out).mono ?_; rintro e w15 ⟨rfl, hb15, hg15⟩; rw [a3] at hb15; have hg135 := grown_trans (grown_below HBE14.out (some g)) hg15; have hT15 : ∀ o, (w15.alloc o).cell? ⟨w12.heap.size, 0, none⟩ = some (.slice A7 so.length c7) := (fun o => (blk_cell (blk_alloc (blk_grown HTB13.out hg135 (fun he => HNT.out (by injection he))) o) 0).trans rfl); have HB15 := Aside0.mk hb15; have HG135 := Aside0.mk hg135; clear hb15 hg15 hg135 HB14 HBE14))
    have hba16 : Below w15.heap.size w15 (w15.alloc (Obj.cells #[.slice none 0 0, .int .i64 m, .int .i64 kn] 75)) := (Below.refl _ _).alloc (Nat.le_refl _) _
    have hr16 := Go.Deep.blk_alloc_new w15 (Obj.cells #[.slice none 0 0, .int .i64 m, .int .i64 kn] 75)
    have hsz16 : (w15.alloc (Obj.cells #[.slice none 0 0, .int .i64 m, .int .i64 kn] 75)).heap.size = w15.heap.size + 1 := Array.size_push _
    generalize (w15.alloc (Obj.cells #[.slice none 0 0, .int .i64 m, .int .i64 kn] 75)) = w16 at *
    have HG136 := Aside0.mk (grown_trans HG135.out (grown_below hba16 (some g)))
    have HB16 := Aside0.mk ((hba16.block g (blk_lt HB15.out)).trans HB15.out)
    have HRB16 := Aside0.mk hr16
    have HG16 := Aside0.mk (grown_trans HG13.out HG136.out)
    have HSZ16 := Aside0.mk hsz16
    have HRBG := Aside0.mk (blk_ne hr16 HB16.out (by decide))
    have HN16 := Aside0.mk (R_but HN13.out HB13.out (by decide) HG136.out)
    have HC16 := Aside0.mk (R_but HC13.out HB13.out (by decide) HG136.out)
    have HS16 := Aside0.mk (R_but HS13.out HB13.out (by decide) HG136.out)
    have H116 := Aside0.mk (R_but H1.out HBK.out (by decide) (grown_trans (grown_below HBA.out (some g)) HG16.out))
    have HL16 := Aside0.mk (HWB.out.trans (grown_belowB HG16.out HWB.out.size HBG.out))
    have HRW : Aside0 (w.heap.size ≤ w15.heap.size ∧ w0.heap.size ≤ w.heap.size) := ⟨⟨by have e1 := HBA.out.size; have e2 := HG13.out.size; have e3 := HG135.out.size; omega, HW.out.size⟩⟩
    have HB0 : Aside0 (w16.heap[g]? = some (.cells #[.slice (some aa) s.length cs0, .string nm, .slice A1 cols.length c1, .slice Ak keys.length ck, .slice A3 refs.length c3, .slice none 0 0, .int .i64 (kindsE cols t.f1 cs ns (so.take 0) 0)] 118 (0, 0))) := ⟨by simpa [kindsE] using HB16.out⟩
    have HR0 : Aside0 (∃ vr, w16.heap[w15.heap.size]? = some (.cells #[vr, .int .i64 m, .int .i64 kn] 75 (0, 0)) ∧ (Kd.int .i64).R 3 w16 w16.heap.size (fun _ => True) vr ((so.take 0).map fun c => rd cs (idxI c 0 ns))) := ⟨⟨_, HRB16.out, by simpa using Kd.R_nil _ _ _ _ _⟩⟩
    have HBT0 := Aside0.mk (But2.refl g w15.heap.size w16)
    clear hba16 hr16 hsz16 hT15 HG135 HB15 HB13 HX13 HT13 HTB13 HN13 HC13 HS13 HL13 HG13 HSZ13 k0 k1 k2 k3 k4 k5 b0 b1 b2 y0 y1 y2 y3 y4 HIK HNT
    have hsol : so.length ≤ 8 := by rw [HSL.out]; exact hnd
    go_loopg [89] so.length (fun gk v89 wx => ∃ (i : Nat), i + gk = so.length ∧ v89 = .int .i64 i ∧ Aside0 (wx.heap[g]? = some (.cells #[.slice (some aa) s.length cs0, .string nm, .slice A1 cols.length c1, .slice Ak keys.length ck, .slice A3 refs.length c3, .slice none 0 0, .int .i64 (kindsE cols t.f1 cs ns (so.take i) 0)] 118 (0, 0))) ∧ Aside0 (∃ vr, wx.heap[w15.heap.size]? = some (.cells #[vr, .int .i64 m, .int .i64 kn] 75 (0, 0)) ∧ (Kd.int .i64).R 3 wx w16.heap.size (fun _ => True) vr ((so.take i).map fun c => rd cs (idxI c 0 ns))) ∧ Aside0 (But2 g w15.heap.size w16 wx))
    case atStart => exact ⟨0, by omega, rfl, HB0, HR0, HBT0⟩
    case round =>
     clear HB0 HR0 HBT0
     obtain ⟨i, hi, rfl, HB, HRR, HBT⟩ := hrel
     cases gk with
     | zero =>
      have hii : ¬ (i : Int) < (so.length : Int) := by omega
      have e1 : so.take i = so := List.take_of_length_le (by omega)
      rw [e1] at HB HRR
      have hr := HR.out
      cases hr
      obtain ⟨vr, hvb, hvr⟩ := HRR.out
      obtain ⟨Av, cv, ev⟩ := Kd.R_slice hvr
      subst ev
      have hpl : (so.map fun c => rd cs (idxI c 0 ns)).length ≤ 100 := by rw [List.length_map]; omega
      have h3w : k75.R 75 wr w0.heap.size (fun k => k < w.heap.size) (.slice A3 refs.length c3) refs := Kd.R_mono (Kd.R_move (Kd.R_bound (Kd.R_types H3.out HBK.out (by decide))) (fun k hk => (HBT.out.block k (by have := HRW.out.1; have := HSZ16.out; have := hk.2.2.1; omega) hk.1.2 (by have := HRW.out.1; have := hk.2.2.1; omega)).trans ((grown_trans (grown_below HBA.out (some g)) HG16.out).block k hk.2.2.1 (fun he => hk.1.2 (by injection he))))) (fun k hk => hk.2.2.1)
      have h1w := But2.row H116.out HB16.out HRB16.out (by decide) (by decide) HBT.out
      have h2w := But2.row (R_but H2.out HBK.out (by decide) (grown_trans (grown_below HBA.out (some g)) HG16.out)) HB16.out HRB16.out (by decide) (by decide) HBT.out
      have hlw := (HBT.out.belowB (B := w0.heap.size) HL16.out.size HBG.out (Nat.le_trans HRW.out.2 HRW.out.1))
      have H3D := Aside0.mk (Kd.R_drew h3w)
      have H1D := Aside0.mk (Kd.R_drew h1w)
      have H2D := Aside0.mk (Kd.R_drew h2w)
      have HVD := Aside0.mk (Kd.R_drew hvr)
      have HBD := Aside0.mk (blk_drew HB.out)
      have HVB := Aside0.mk (blk_drew hvb)
      have HLD := Aside0.mk (below_drew1 (((HW.out.trans (HBA.out.mono HW.out.size)).trans (grown_belowB HG16.out HWB.out.size HBG.out)).trans hlw))
      have HLW2 := Aside0.mk (below_drew1 (((HBA.out.mono HW.out.size).trans (grown_belowB HG16.out HWB.out.size HBG.out)).trans hlw))
      have HWS := Aside0.mk HBT.out.size
      have HD0 : wr.drew.cell? ⟨g, 4, none⟩ = some (.slice A3 refs.length c3) ∧ wr.drew.cell? ⟨w15.heap.size, 0, none⟩ = some (.slice Av (so.map fun c => rd cs (idxI c 0 ns)).length cv) ∧ wr.drew.cell? ⟨w15.heap.size, 1, none⟩ = some (.int .i64 m) ∧ wr.drew.cell? ⟨w15.heap.size, 2, none⟩ = some (.int .i64 kn) := ⟨(seven_at HBD.out).2.2.2.2.1, (blk_cell HVB.out 0).trans rfl, (blk_cell HVB.out 1).trans rfl, (blk_cell HVB.out 2).trans rfl⟩
      generalize hef : kindsE cols t.f1 cs ns so 0 = ef at *
      have HEF := Aside0.mk hef
      generalize hrow : (so.map fun c => rd cs (idxI c 0 ns)) = row at *
      have HROW := Aside0.mk hrow
      have hrw : w.heap.size ≤ w16.heap.size := by have := HRW.out.1; have := HSZ16.out; omega
      clear hvb hvr h3w h1w h2w hlw HRR HB H1 H2 H3 HBX KS HWX HC2 HC1 KT HCSG HNSG HQ2 HBL HMC HE4 HMN HE6 HNR HCR HNL HCL2 HPM HPS HSL HG136 HN16 HC16 HS16 H116 HR2 HHS hrow hef HBT
      go_wp2
      refine start_ (n := 13) (S := fun W => W.cell? ⟨g, 4, none⟩ = some (.slice A3 refs.length c3) ∧ W.cell? ⟨w15.heap.size, 0, none⟩ = some (.slice Av row.length cv) ∧ W.cell? ⟨w15.heap.size, 1, none⟩ = some (.int .i64 m) ∧ W.cell? ⟨w15.heap.size, 2, none⟩ = some (.int .i64 kn)) (ds := [12]) #[false, false, false, false, false, false, false, false, false, false, false, false, false] (by kernel_rfl) rfl rfl HD0 (fun hHeld => ?_)
      clear HD0
      generalize wr.drew = W1 at *
      refine pure_ (i := 0) (N := some 130) (v := ?_) (a' := ?_) #[true, false, false, false, false, false, false, false, false, false, false, false, false] rfl rfl (by kernel_rfl) (fun _ _ _ h => h) (Or.inl ⟨by rfl, ?_⟩) ?_ ?_
      rotate_left
      ·intro w'; go_simp; with_reducible rfl
      rotate_left
      ·simp only [Act.put, List.setIfInBounds_toArray, List.set_cons_zero, List.set_cons_succ, i64_w, i32_w]; rfl
      refine pure_ (i := 1) (N := some 131) (v := ?_) (a' := ?_) #[true, true, false, false, false, false, false, false, false, false, false, false, false] rfl rfl (by kernel_rfl) (fun _ _ _ h => h) (Or.inl ⟨by rfl, ?_⟩) ?_ ?_
      rotate_left
      ·intro w'; go_simp; with_reducible rfl
      rotate_left
      ·simp only [Act.put, List.setIfInBounds_toArray, List.set_cons_zero, List.set_cons_succ, i64_w, i32_w]; rfl
      refine pure_ (i := 2) (N := some 132) (v := ?_) (a' := ?_) #[true, true, true, false, false, false, false, false, false, false, false, false, false] rfl rfl (by kernel_rfl) (fun _ _ _ h => h) (Or.inl ⟨by rfl, ?_⟩) ?_ ?_
      rotate_left
      ·intro w'; go_simp; with_reducible rfl
      rotate_left
      ·simp only [Act.put, List.setIfInBounds_toArray, List.set_cons_zero, List.set_cons_succ, i64_w, i32_w]; rfl
      refine pure_ (i := 3) (N := some 133) (v := ?_) (a' := ?_) #[true, true, true, true, false, false, false, false, false, false, false, false, false] rfl rfl (by kernel_rfl) (fun _ _ _ h => h) (Or.inl ⟨by rfl, ?_⟩) ?_ ?_
      rotate_left
      ·intro w'; go_simp; with_reducible rfl
      rotate_left
      ·simp only [Act.put, List.setIfInBounds_toArray, List.set_cons_zero, List.set_cons_succ, i64_w, i32_w]; rfl
      refine pure_ (i := 4) (N := some 134) (v := ?_) (a' := ?_) #[true, true, true, true, true, false, false, false, false, false, false, false, false] rfl rfl (by kernel_rfl) (fun _ _ _ h => h) (Or.inl ⟨by rfl, ?_⟩) ?_ ?_
      rotate_left
      ·intro w'; go_simp; with_reducible rfl
      rotate_left
      ·simp only [Act.put, List.setIfInBounds_toArray, List.set_cons_zero, List.set_cons_succ, i64_w, i32_w]; rfl
      refine take_ (i := 5) (N := some 135) (v := ?_) (a' := ?_) #[true, true, true, true, true, true, false, false, false, false, false, false, false] rfl rfl (by kernel_rfl) (fun _ _ _ h => h) (Or.inl ⟨by rfl, ?_⟩) hHeld ?_ ?_
      rotate_left
      ·rintro w' ⟨s0, s1, s2, s3⟩; go_simp; with_reducible rfl
      rotate_left
      ·simp only [Act.put, List.setIfInBounds_toArray, List.set_cons_zero, List.set_cons_succ, i64_w, i32_w]; rfl
      refine take_ (i := 6) (N := some 136) (v := ?_) (a' := ?_) #[true, true, true, true, true, true, true, false, false, false, false, false, false] rfl rfl (by kernel_rfl) (fun _ _ _ h => h) (Or.inl ⟨by rfl, ?_⟩) hHeld ?_ ?_
      rotate_left
      ·rintro w' ⟨s0, s1, s2, s3⟩; go_simp; with_reducible rfl
      rotate_left
      ·simp only [Act.put, List.setIfInBounds_toArray, List.set_cons_zero, List.set_cons_succ, i64_w, i32_w]; rfl
      refine one_ (i := 7) (N := some 137) #[true, true, true, true, true, true, true, true, false, false, false, false, false] rfl rfl (by kernel_rfl) (by decide) (fun K hK => ?_)
      refine event_step (by rfl) (v := .slice (some ⟨W1.heap.size, 0, none⟩) 1 1) (w1 := W1.alloc (.cells #[.slice Av row.length cv, .int .i64 m, .int .i64 kn] 75)) ?hr2 ?_
      case hr2 => first | (go_simp; done) | (go_simp; rfl)
      have hba := below_alloc (Below.refl W1.heap.size W1) (.cells #[.slice Av row.length cv, .int .i64 m, .int .i64 kn] 75)
      refine hK.out _ _ ⟨(hba.cell (World.block_lt_of_cell? W1 _ hHeld.1)).trans hHeld.1, (hba.cell (World.block_lt_of_cell? W1 _ hHeld.2.1)).trans hHeld.2.1, (hba.cell (World.block_lt_of_cell? W1 _ hHeld.2.2.1)).trans hHeld.2.2.1, (hba.cell (World.block_lt_of_cell? W1 _ hHeld.2.2.2)).trans hHeld.2.2.2⟩ (fun hHeld2 => ?_)
      clear hK K hba hHeld2
      refine norm_ (a' := ?_) ?_ ?_
      rotate_left
      ·show Act.put _ (some 137) _ = _; simp only [Act.put, List.setIfInBounds_toArray, List.set_cons_zero, List.set_cons_succ, i64_w, i32_w]; rfl
      refine one_ (i := 8) (N := some 138) #[true, true, true, true, true, true, true, true, true, false, false, false, false] rfl rfl (by kernel_rfl) (by decide) (fun K hK => ?_)
      refine Kd.R_append_step k75 (w0 := w0) w0.heap.size (by rfl) (.tmp 135) (.tmp 137) 69 75 (.agg #[.slice none 0 0, .int .i64 0, .int .i64 0]) 40 rfl Tryz.underlying69 info75 rfl (by decide) (by omega) (.slice A3 refs.length c3) refs ⟨row, m, kn⟩ [.slice Av row.length cv, .int .i64 m, .int .i64 kn] (fun _ => True) (fun k => w16.heap.size ≤ k) rfl rfl ?aP ?aQ (fun _ _ => trivial) ?aO HLD.out HLD.out.size (by omega) ?_
      case aP => exact k75_mkM W1 _ _ ⟨row, m, kn⟩ (Kd.R_lower (Kd.R_mono (Kd.R_bound HVD.out) (fun k hk => hk.2.1)) (Nat.le_trans HRW.out.2 hrw))
      case aQ => exact fun k hk => ⟨trivial, fun he => by have := H3D.out.1 k he.symm; omega⟩
      case aO => exact Kd.R_mono H3D.out (fun _ _ => trivial)
      intro v8 W5 hv8 hb8 hg8 _
      obtain ⟨A8, c8, e8⟩ := Kd.R_slice hv8
      subst e8
      have cg := blk_grown HBD.out hg8 (Kd.R_ne H3D.out HBD.out (by decide))
      have cb := blk_grown HVB.out hg8 (fun he => by have := H3D.out.1 _ he.symm; have := HRW.out.1; omega)
      refine hK.out _ _ ⟨(seven_at cg).2.2.2.2.1, (blk_cell cb 0).trans rfl, (blk_cell cb 1).trans rfl, (blk_cell cb 2).trans rfl⟩ (fun hHeld5 => ?_)
      clear hK K
      refine norm_ (a' := ?_) ?_ ?_
      rotate_left
      ·show Act.put _ (some 138) _ = _; simp only [Act.put, List.setIfInBounds_toArray, List.set_cons_zero, List.set_cons_succ, i64_w, i32_w]; rfl
      refine pure_ (i := 9) (N := some 139) (v := ?_) (a' := ?_) #[true, true, true, true, true, true, true, true, true, true, false, false, false] rfl rfl (by kernel_rfl) (fun _ _ _ h => h) (Or.inl ⟨by rfl, ?_⟩) ?_ ?_
      rotate_left
      ·intro w'; go_simp; with_reducible rfl
      rotate_left
      ·simp only [Act.put, List.setIfInBounds_toArray, List.set_cons_zero, List.set_cons_succ, i64_w, i32_w]; rfl
      refine pure_ (i := 10) (N := some 140) (v := ?_) (a' := ?_) #[true, true, true, true, true, true, true, true, true, true, true, false, false] rfl rfl (by kernel_rfl) (fun _ _ _ h => h) (Or.inl ⟨by rfl, ?_⟩) ?_ ?_
      rotate_left
      ·intro w'; go_simp; with_reducible rfl
      rotate_left
      ·simp only [Act.put, List.setIfInBounds_toArray, List.set_cons_zero, List.set_cons_succ, i64_w, i32_w]; rfl
      refine pure_ (i := 11) (N := some 141) (v := ?_) (a' := ?_) #[true, true, true, true, true, true, true, true, true, true, true, true, false] rfl rfl (by kernel_rfl) (fun _ _ _ h => h) (Or.inl ⟨by rfl, ?_⟩) ?_ ?_
      rotate_left
      ·intro w'; go_simp; with_reducible rfl
      rotate_left
      ·simp only [Act.put, List.setIfInBounds_toArray, List.set_cons_zero, List.set_cons_succ, i64_w, i32_w]; rfl
      refine last_ (i := 12) (N := none) #[true, true, true, true, true, true, true, true, true, true, true, true, true] rfl rfl (by kernel_rfl) (by decide) (fun K hK => ?_)
      refine step_store_run (by rfl) 69 (.tmp 141) (.tmp 138) rfl rfl rfl rfl (run_store_run 69 (.slice A8 (refs ++ [(⟨row, m, kn⟩ : S75)]).length c8) [.slice A8 (refs ++ [(⟨row, m, kn⟩ : S75)]).length c8] cg rfl (by kernel_rfl) (by show 4 + 1 ≤ 7; omega) (by simp [Value.oneCell'])) ?_
      refine hK.out _ _ ?_
      clear hK K
      refine done_ (by kernel_rfl) ?_
      go_end0
      have e1 := HROW.out
      have e2 := HEF.out
      rw [e1, e2]
      exact ⟨rfl, ⟨HBG.out, _, _, _, blk_put cg 4 _ rfl, Kd.R_set (Kd.R_over' H1D.out (Kd.R_typed H3D.out) (by decide) hg8) cg (by decide) 4 _, Kd.R_set (Kd.R_over' H2D.out (Kd.R_typed H3D.out) (by decide) hg8) cg (by decide) 4 _, Kd.R_set hv8 cg (by decide) 4 _⟩, (HLW2.out.grown hg8 HLD.out.size (fun k hk => Kd.R_base H3D.out k hk)).setCell (p := ⟨g, 4, none⟩) HBG.out _⟩
     | succ gk =>
      have hlt : i < so.length := by omega
      have hii : (i : Int) < (so.length : Int) := by omega
      have hi0 : (0 : Int) ≤ (i : Int) := by omega
      obtain ⟨g7, cap7, ev7, _⟩ := Kd.R_form HS16.out (by omega)
      simp only [Value.slice.injEq, true_and] at ev7
      obtain ⟨eA7, eC7⟩ := ev7
      subst eA7
      subst eC7
      have hsw := But2.row HS16.out HB16.out HRB16.out (by decide) (by decide) HBT.out
      have xs7 := (R_num hsw i hlt).1
      have hrd : so.getD i 0 = so[i] := by simp [List.getD, hlt]
      rw [hrd] at xs7
      have hcm : so[i] ∈ ns := HPM.out.mem_iff.1 (List.getElem_mem hlt)
      have hcr := HNR.out _ hcm
      have hspec := idxI_spec hcm
      have htk := take_snoc hlt
      obtain ⟨c, hce⟩ : ∃ c : Nat, so[i] = (c : Int) := ⟨so[i].toNat, by omega⟩
      rw [hce] at xs7 hcr hspec htk
      obtain ⟨jx, hjx⟩ : ∃ j : Nat, idxI (c : Int) 0 ns = (j : Int) := ⟨(idxI (c : Int) 0 ns).toNat, by omega⟩
      have hjl : jx < cs.length := by rw [HCL2.out, ← HNL.out]; omega
      have hnw := Kd.R_reads' (But2.row HN16.out HB16.out HRB16.out (by decide) (by decide) HBT.out)
      have HIX := Aside0.mk (index_walk A6 c6 ns (c : Int) wr hnw.2.2 hnw.2.1)
      rw [hjx] at HIX
      have hcw := But2.row HC16.out HB16.out HRB16.out (by decide) (by decide) HBT.out
      obtain ⟨g5, cap5, ev5, _⟩ := Kd.R_form hcw (by omega)
      simp only [Value.slice.injEq, true_and] at ev5
      obtain ⟨eA5, eC5⟩ := ev5
      subst eA5
      subst eC5
      have xc := (R_num hcw jx hjl).1
      have hcj : cs.getD jx 0 = cs[jx] := by simp [List.getD, hjl]
      have hor := HCR.out _ (List.getElem_mem hjl)
      obtain ⟨ow, how⟩ : ∃ o : Nat, cs[jx] = (o : Int) := ⟨cs[jx].toNat, by omega⟩
      rw [hcj, how] at xc
      rw [how] at hor
      have h1w := Kd.R_reads' (But2.row H116.out HB16.out HRB16.out (by decide) (by decide) HBT.out)
      obtain ⟨a1, ea1, _, xk, _⟩ := at_T78 h1w.2.2 (ow : Int) (by omega) (by omega)
      subst ea1
      obtain ⟨ga, ega⟩ := Kd.R_head H116.out
      obtain ⟨cga, hga⟩ := Kd.R_typed H116.out ga (by rw [ega]; simp [Value.ownBlock])
      have hn1 : (a1.add (ow * 5)).block ≠ g := by
       rw [ega, add_plain]
       exact blk_ne hga HB16.out (by decide)
      obtain ⟨q1, eq1, _, xt, _⟩ := at_T78 HC1.out (c : Int) (by omega) (by omega)
      subst eq1
      rw [Int.toNat_natCast] at xk xt
      have hl2 := World.block_lt_of_cell? w0 _ xt
      have hn2 : (q1.add (c * 5)).block ≠ g := fun he => by
       have h9 : (q1.add (c * 5)).block < w0.heap.size := hl2
       have := HBG.out
       omega
      have ht0 := (KT.out w0 (Below.refl _ _)).2.1
      have hl3 := World.block_lt_of_cell? w0 _ ht0
      have hn3 : (aa.add (m * 5)).block ≠ g := fun he => by
       have h9 : (aa.add (m * 5)).block < w0.heap.size := hl3
       have := HBG.out
       omega
      have HNE : Aside0 ((a1.add (ow * 5)).block ≠ g ∧ (aa.add (m * 5)).block ≠ g ∧ (q1.add (c * 5)).block ≠ g) := ⟨⟨hn1, hn3, hn2⟩⟩
      clear ega hga hn1 hn2 hn3 ht0 hl2 hl3
      have hre : rd cs (jx : Int) = (ow : Int) := by unfold rd; rw [Int.toNat_natCast, hcj, how]
      have HK : Aside0 (kindsE cols t.f1 cs ns (so.take (i + 1)) 0 = askE (kindsE cols t.f1 cs ns (so.take i) 0) ((rd_T78 cols (ow : Int)).f1 != (rd_T78 t.f1 (c : Int)).f1) 79) := ⟨by rw [htk, kindsE_snoc, hjx, hre]⟩
      have HM2 : Aside0 (((so.take (i + 1)).map fun c => rd cs (idxI c 0 ns)) = ((so.take i).map fun c => rd cs (idxI c 0 ns)) ++ [(ow : Int)]) := ⟨by rw [htk, List.map_append]; simp [hjx, hre]⟩
      have hpl : ((so.take i).map fun c => rd cs (idxI c 0 ns)).length ≤ 100 := by rw [List.length_map, List.length_take]; omega
      have HLW := Aside0.mk (HL16.out.trans (HBT.out.belowB HL16.out.size HBG.out (Nat.le_trans HRW.out.2 HRW.out.1)))
      have ht2 := (KT.out _ HLW.out).2.1
      have ht2' : wr.cell? ⟨(aa.add (m * 5)).block, (aa.add (m * 5)).off + 1, none⟩ = some (.slice (some q1) t.f1.length p1) := ht2
      have hxt := (HLW.out.cell (World.block_lt_of_cell? w0 _ xt)).trans xt
      obtain ⟨k0, k1, k2, _⟩ := seven_at HB.out
      generalize (rd_T78 cols (ow : Int)).f1 = xkk at *
      generalize (rd_T78 t.f1 (c : Int)).f1 = xtt at *
      obtain ⟨bk, hbk⟩ : ∃ b, (xkk != xtt) = b := ⟨_, rfl⟩
      have hbk2 : (xkk == xtt) = !bk := by rw [← hbk, bne, Bool.not_not]
      rw [hbk] at HK
      generalize kindsE cols t.f1 cs ns (so.take i) 0 = ei at *
      generalize ((so.take i).map fun c => rd cs (idxI c 0 ns)) = pre at *
      obtain ⟨vr, hvb, hvr⟩ := HRR.out
      obtain ⟨Av, cv, ev⟩ := Kd.R_slice hvr
      subst ev
      have HVB := Aside0.mk hvb
      have HVR := Aside0.mk hvr
      have KC : Aside0 (∀ W, Below wr.heap.size wr W → W.cell? ⟨g, 0, none⟩ = some (.slice (some aa) s.length cs0) ∧ W.cell? ⟨g, 2, none⟩ = some (.slice (some a1) cols.length c1) ∧ W.cell? ⟨(a1.add (ow * 5)).block, (a1.add (ow * 5)).off + 1, none⟩ = some (.int .u8 xkk) ∧ W.cell? ⟨(aa.add (m * 5)).block, (aa.add (m * 5)).off + 1, none⟩ = some (.slice (some q1) t.f1.length p1) ∧ W.cell? ⟨(q1.add (c * 5)).block, (q1.add (c * 5)).off + 1, none⟩ = some (.int .u8 xtt)) := ⟨fun W h => ⟨(h.cell (World.block_lt_of_cell? wr _ k0)).trans k0, (h.cell (World.block_lt_of_cell? wr _ k2)).trans k2, (h.cell (World.block_lt_of_cell? wr _ xk)).trans xk, (h.cell (World.block_lt_of_cell? wr _ ht2')).trans ht2', (h.cell (World.block_lt_of_cell? wr _ hxt)).trans hxt⟩⟩
      have hci : (c : Int) < (t.f1.length : Int) := hcr.2
      have hoi : (ow : Int) < (cols.length : Int) := hor.2
      have hmi2 : (m : Int) < (s.length : Int) := hmi
      have hjc : (jx : Int) < (cs.length : Int) := by omega
      clear hsw hrd hcm hcr hspec htk hce hjx hnw hcw hcj hor how h1w xt ht2 ht2' hxt hre xk k0 k1 k2 hvb hvr HRR
      clear HBK H1 H2 H3 HW HGS HBX HBA HWB KS HWX HR HC2 HC1 KT HCSG HNSG HQ2 HBL HMC HE4 HMN HE6 HNR HCR HNL HCL2 HPM HPS HSL HG136 HRB16 HG16 HSZ16 HN16 HC16 HS16 H116 HL16 HLW HR2 HHS
      go_wp2_with (go_at_call 123; refine HIX.out.mono ?_; rintro e w17 ⟨rfl, hb17⟩; have xc17 := (hb17.cell (World.block_lt_of_cell? wr _ xc)).trans xc)
      have HB17 := Aside0.mk (blk_drew ((hb17.block g (blk_lt HB.out)).trans HB.out))
      have KC17 := KC.out _ (below_drew1 hb17)
      have HBL17 := Aside0.mk (below_drew1 hb17)
      clear hb17 KC
      go_region_held3 (fun W => W.cell? ⟨g, 0, none⟩ = some (.slice (some aa) s.length cs0) ∧ W.cell? ⟨g, 2, none⟩ = some (.slice (some a1) cols.length c1) ∧ W.cell? ⟨(a1.add (ow * 5)).block, (a1.add (ow * 5)).off + 1, none⟩ = some (.int .u8 xkk) ∧ W.cell? ⟨(aa.add (m * 5)).block, (aa.add (m * 5)).off + 1, none⟩ = some (.slice (some q1) t.f1.length p1) ∧ W.cell? ⟨(q1.add (c * 5)).block, (q1.add (c * 5)).off + 1, none⟩ = some (.int .u8 xtt)) (first | exact KC17 | exact ⟨(seven_at hb18).1, (seven_at hb18).2.2.1, cell_but hg18 KC17.2.2.1 HNE.out.1, cell_but hg18 KC17.2.2.2.1 HNE.out.2.1, cell_but hg18 KC17.2.2.2.2 HNE.out.2.2⟩) ((go_at_call 63; refine (ask_walk g _ _ _ _ _ _ _ _ _ _ HB17.out).mono ?_; rintro e w18 ⟨rfl, hb18, hg18⟩))
      have HB18 := Aside0.mk hb18
      have HVB18 := Aside0.mk (blk_grown ((HBL17.out.block _ (blk_lt HVB.out)).trans HVB.out) hg18 (fun he => HRBG.out (by injection he)))
      have HVR18 := Aside0.mk (R_but (Kd.R_below HVR.out HBL17.out) HB17.out (by decide) hg18)
      have HBT18 := Aside0.mk ((HBT.out.step (grown_below HBL17.out (some g)) (fun j hj => .inl (by injection hj with hj; exact hj.symm))).step hg18 (fun j hj => .inl (by injection hj with hj; exact hj.symm)))
      clear hb18 hg18 KC17 HBT HB17 HBL17 HVB HVR xc17 hbk hbk2
      have z0 : w18.cell? ⟨w15.heap.size, 0, none⟩ = some (.slice Av pre.length cv) := (blk_cell HVB18.out 0).trans rfl
      go_wp2_with ((with_reducible refine gate_builtin (b := .append) (xs := #[.tmp 124, .tmp 126]) rfl ?_); at_builtin; refine Kd.R_append (Kd.int .i64) (w0 := w18) w16.heap.size rfl (.tmp 124) (.tmp 126) 70 3 (.int .i64 0) 8 rfl Tryz.underlying70 info3 rfl (by decide) (by omega) (.slice Av pre.length cv) pre (ow : Int) [.int .i64 ow] (fun _ => True) (fun _ => False) rfl rfl rfl (fun _ h => h.elim) (fun _ _ => trivial) HVR18.out (Below.refl _ _) HBT18.out.size (by omega) ?_; intro v9 w19 hv9 _ hg19 _; obtain ⟨A9, c9, e9⟩ := Kd.R_slice hv9; subst e9; have HV19 := Aside0.mk hv9; have HVB19 := Aside0.mk (blk_grown HVB18.out hg19 (Kd.R_ne HVR18.out HVB18.out (by decide))); have HB19 := Aside0.mk (blk_grown HB18.out hg19 (Kd.R_ne HVR18.out HB18.out (by decide))); have HG19 := Aside0.mk hg19; have y0 := (blk_cell HVB19.out 0).trans (rfl : _ = some _); have yf := blk_frozen HVB19.out 0; clear hv9 hg19)
      have HK0 := HK.out
      have HV2 := HV19.out
      rw [show (pre ++ [(ow : Int)]).length = pre.length + 1 by simp] at HV2
      go_roundg gk
      case measure => omega
      case rel => exact ⟨i + 1, by omega, by first | rfl | (simp; done) | (simp; unfold wrap64; omega), ⟨by rw [HK0]; exact (blk_far HB19.out (p := ⟨w15.heap.size, 0, none⟩) (Ne.symm HRBG.out) _)⟩, ⟨_, blk_put HVB19.out 0 _ rfl, by rw [HM2.out]; exact Kd.R_set HV2 HVB19.out (by decide) 0 _⟩, ⟨(HBT18.out.step HG19.out (fun j hj => .inr (.inr (Kd.R_base HVR18.out j hj)))).step (grown_set _ _ _ _) (fun j hj => .inr (.inl (by injection hj with hj; exact hj.symm)))⟩⟩
def wrongP (v : Bool) (nm : ByteArray) (defs : List S109) (keys : List (List ByteArray)) (refs : List S105) : Bool :=
 !v || (!nmB nm || (defs.any (fun x => !defB x) || (keys.any (fun l => !namesB l) || refs.any (fun r => !refdB r))))
def bigP (s : List S49) (defs : List S109) (keys : List (List ByteArray)) (refs : List S105) : Bool :=
 decide (16 ≤ s.length) || (decide (8 < defs.length) || (decide (4 < keys.length) || decide (4 < refs.length)))
def err0 (v : Bool) (s : List S49) (nm : ByteArray) (defs : List S109) (keys : List (List ByteArray)) (refs : List S105) : Int :=
 askE (askE (askE (askE 0 (wrongP v nm defs keys refs) 1) (decide (0 ≤ findP nm 0 s)) 70) (bigP s defs keys refs) 72) (!distP [] (defs.map fun x => x.f0)) 70
def keysF (cols : List S78) : List (List ByteArray) → List (List Int) → List (List Int) × Int
 | [], ks => (ks, 0)
 | l :: r, ks => if (keyS cols ks l).2 = 0 then keysF cols r (keyS cols ks l).1 else keyS cols ks l
def refsF (s : List S49) (cols : List S78) : List S105 → List S75 → List S75 × Int
 | [], rs => (rs, 0)
 | d :: r, rs => if (refS s cols rs d).2 = 0 then refsF s cols r (refS s cols rs d).1 else refS s cols rs d
def keysE (e : Int) (cols : List S78) (keys : List (List ByteArray)) (ks : List (List Int)) : List (List Int) × Int := if e = 0 then keysF cols keys ks else (ks, e)
def refsE (e : Int) (s : List S49) (cols : List S78) (refs : List S105) (rs : List S75) : List S75 × Int := if e = 0 then refsF s cols refs rs else (rs, e)
def createP (v : Bool) (s : List S49) (d : Data) (nm : ByteArray) (defs : List S109) (keys : List (List ByteArray)) (refs : List S105) : List S49 × Data × Int :=
 if (refsE (keysE (err0 v s nm defs keys refs) (defs.map madeC) keys []).2 s (defs.map madeC) refs []).2 = 0 then (s ++ [⟨nm, defs.map madeC, (keysE (err0 v s nm defs keys refs) (defs.map madeC) keys []).1, (refsE (keysE (err0 v s nm defs keys refs) (defs.map madeC) keys []).2 s (defs.map madeC) refs []).1, []⟩], d ++ [[]], 0)
 else ([], [], (refsE (keysE (err0 v s nm defs keys refs) (defs.map madeC) keys []).2 s (defs.map madeC) refs []).2)
theorem keyS_le (cols : List S78) (ks : List (List Int)) (l : List ByteArray) : (keyS cols ks l).1.length ≤ ks.length + 1 := by
 unfold keyS
 split <;> simp
theorem refS_le (s : List S49) (cols : List S78) (rs : List S75) (d : S105) : (refS s cols rs d).1.length ≤ rs.length + 1 := by
 unfold refS
 repeat' split
 all_goals simp
theorem keysE_step (cols : List S78) (l : List ByteArray) (r : List (List ByteArray)) (ks : List (List Int)) : keysE 0 cols (l :: r) ks = keysE (keyS cols ks l).2 cols r (keyS cols ks l).1 := by
 unfold keysE
 rw [if_pos rfl, keysF]
theorem refsE_step (s : List S49) (cols : List S78) (l : S105) (r : List S105) (rs : List S75) : refsE 0 s cols (l :: r) rs = refsE (refS s cols rs l).2 s cols r (refS s cols rs l).1 := by
 unfold refsE
 rw [if_pos rfl, refsF]
theorem keysE_nil (e : Int) (cols : List S78) (ks : List (List Int)) : keysE e cols [] ks = (ks, e) := by
 unfold keysE keysF
 split
 ·rename_i h; rw [h]
 ·rfl
theorem refsE_nil (e : Int) (s : List S49) (cols : List S78) (rs : List S75) : refsE e s cols [] rs = (rs, e) := by
 unfold refsE refsF
 split
 ·rename_i h; rw [h]
 ·rfl
theorem err0_parts {v : Bool} {s : List S49} {nm : ByteArray} {defs : List S109} {keys : List (List ByteArray)} {refs : List S105} (h : err0 v s nm defs keys refs = 0) :
  v = true ∧ nmB nm = true ∧ defs.any (fun x => !defB x) = false ∧ keys.any (fun l => !namesB l) = false ∧ refs.any (fun r => !refdB r) = false ∧ findP nm 0 s < 0 ∧ s.length < 16 ∧ defs.length ≤ 8 ∧ keys.length ≤ 4 ∧ refs.length ≤ 4 ∧ distP [] (defs.map fun x => x.f0) = true := by
 unfold err0 at h
 have h1 : wrongP v nm defs keys refs = false := by
  cases q : wrongP v nm defs keys refs with
  | false => rfl
  | true => rw [q] at h; simp [askE] at h
 rw [h1] at h
 have h2 : decide (0 ≤ findP nm 0 s) = false := by
  cases q : decide (0 ≤ findP nm 0 s) with
  | false => rfl
  | true => rw [q] at h; simp [askE] at h
 rw [h2] at h
 have h3 : bigP s defs keys refs = false := by
  cases q : bigP s defs keys refs with
  | false => rfl
  | true => rw [q] at h; simp [askE] at h
 rw [h3] at h
 have h4 : distP [] (defs.map fun x => x.f0) = true := by
  cases q : distP [] (defs.map fun x => x.f0) with
  | true => rfl
  | false => rw [q] at h; simp [askE] at h
 unfold wrongP at h1
 simp only [Bool.or_eq_false_iff, Bool.not_eq_false'] at h1
 obtain ⟨a1, a2, a3, a4, a5⟩ := h1
 unfold bigP at h3
 simp only [Bool.or_eq_false_iff, decide_eq_false_iff_not] at h3
 obtain ⟨b1, b2, b3, b4⟩ := h3
 have h2 := of_decide_eq_false h2
 exact ⟨a1, a2, a3, a4, a5, by omega, by omega, by omega, by omega, by omega, h4⟩
theorem nodup_dist {α : Type} [DecidableEq α] : ∀ (l S : List α), l.Nodup → (∀ x ∈ l, x ∉ S) → distP S l = true
 | [], _, _, _ => by rw [distP]
 | x :: r, S, h, hs => by
  rw [List.nodup_cons] at h
  rw [distP, if_neg (fun hm => hs x List.mem_cons_self ((memP_iff _ _).1 hm))]
  refine nodup_dist r _ h.2 (fun y hy hm => ?_)
  simp only [List.mem_append, List.mem_cons, List.not_mem_nil, or_false] at hm
  rcases hm with hm | hm
  all_goals first | exact hs y (List.mem_cons_of_mem _ hy) hm | (subst hm; exact h.1 hy)
theorem dist_nodup {α : Type} [DecidableEq α] (l : List α) : distP [] l = true ↔ l.Nodup := ⟨fun h => (distP_nodup l [] h).1, fun h => nodup_dist l [] h (fun x _ hx => by cases hx)⟩
theorem eqA83 (d : Nat) (w : World) (x0 y0 : ByteArray) (x1 y1 : Int) (x2 y2 : Bool) (x3 y3 : Int) (x4 y4 : Int) :
  (Op.equalIn (d + 2) 83 (.agg #[.string x0, .int .u8 x1, .bool x2, .int .i64 x3, .int .i64 x4]) (.agg #[.string y0, .int .u8 y1, .bool y2, .int .i64 y3, .int .i64 y4])).run Tryz.prog w = .ok (x0.toList == y0.toList && (x1 == y1 && (x2 == y2 && (x3 == y3 && (x4 == y4))))) w := by
 refine eqA_of Tryz.underlying83 (by kernel_rfl) ?_
 refine eqf_cons (by rfl) (by go_simp; rfl) (by go_simp; rfl) (by go_simp) ?_
 refine eqf_cons (by rfl) (by go_simp; rfl) (by go_simp; rfl) (by go_simp) ?_
 refine eqf_cons (by rfl) (by go_simp; rfl) (by go_simp; rfl) (by go_simp) ?_
 refine eqf_cons (by rfl) (by go_simp; rfl) (by go_simp; rfl) (by go_simp) ?_
 exact eqf_last (by rfl) (by go_simp; rfl) (by go_simp; rfl) (by go_simp)
attribute [local go_sem high] eqA83
abbrev smC (aa ab : Addr) (P1 : Option Addr) (p1 : Nat) (P2 : Option Addr) (p2 : Nat) (P3 : Option Addr) (p3 : Nat) (P4 : Option Addr) (p4 : Nat) (Q1 : Option Addr) (q1 : Nat) (Q2 : Option Addr) (q2 : Nat) (Q3 : Option Addr) (q3 : Nat) (Q4 : Option Addr) (q4 : Nat) (x : S49) (i : Nat) (W : World) : Prop :=
 W.cell? (aa.add (i * 5)) = some (.string x.f0) ∧ W.cell? ⟨(aa.add (i * 5)).block, (aa.add (i * 5)).off + 1, none⟩ = some (.slice P1 x.f1.length p1) ∧ W.cell? ⟨(aa.add (i * 5)).block, (aa.add (i * 5)).off + 2, none⟩ = some (.slice P2 x.f2.length p2) ∧ W.cell? ⟨(aa.add (i * 5)).block, (aa.add (i * 5)).off + 3, none⟩ = some (.slice P3 x.f3.length p3) ∧ W.cell? ⟨(aa.add (i * 5)).block, (aa.add (i * 5)).off + 4, none⟩ = some (.slice P4 x.f4.length p4) ∧
 W.cell? (ab.add (i * 5)) = some (.string x.f0) ∧ W.cell? ⟨(ab.add (i * 5)).block, (ab.add (i * 5)).off + 1, none⟩ = some (.slice Q1 x.f1.length q1) ∧ W.cell? ⟨(ab.add (i * 5)).block, (ab.add (i * 5)).off + 2, none⟩ = some (.slice Q2 x.f2.length q2) ∧ W.cell? ⟨(ab.add (i * 5)).block, (ab.add (i * 5)).off + 3, none⟩ = some (.slice Q3 x.f3.length q3) ∧ W.cell? ⟨(ab.add (i * 5)).block, (ab.add (i * 5)).off + 4, none⟩ = some (.slice Q4 x.f4.length q4)
abbrev smG (g1 g2 : Nat) (P1 : Option Addr) (p1 : Nat) (P2 : Option Addr) (p2 : Nat) (P3 : Option Addr) (p3 : Nat) (P4 : Option Addr) (p4 : Nat) (Q1 : Option Addr) (q1 : Nat) (Q2 : Option Addr) (q2 : Nat) (Q3 : Option Addr) (q3 : Nat) (Q4 : Option Addr) (q4 : Nat) (x : S49) (W : World) : Prop :=
 W.cell? ⟨g1, 0, none⟩ = some (.string x.f0) ∧ W.cell? ⟨g1, 1, none⟩ = some (.slice P1 x.f1.length p1) ∧ W.cell? ⟨g1, 2, none⟩ = some (.slice P2 x.f2.length p2) ∧ W.cell? ⟨g1, 3, none⟩ = some (.slice P3 x.f3.length p3) ∧ W.cell? ⟨g1, 4, none⟩ = some (.slice P4 x.f4.length p4) ∧
 W.cell? ⟨g2, 0, none⟩ = some (.string x.f0) ∧ W.cell? ⟨g2, 1, none⟩ = some (.slice Q1 x.f1.length q1) ∧ W.cell? ⟨g2, 2, none⟩ = some (.slice Q2 x.f2.length q2) ∧ W.cell? ⟨g2, 3, none⟩ = some (.slice Q3 x.f3.length q3) ∧ W.cell? ⟨g2, 4, none⟩ = some (.slice Q4 x.f4.length q4)
end Go.Proofs.YthgfdnffnbclpaaGreatDoor.PAll
namespace Go.Proofs.YthgfdnffnbclpaaGreatDoor.PAll
open Go.RowKit Go.Proofs.YthgfdnffnbclpaaGreatDoorW.PrintWords Go.Proofs.YthgfdnffnbclpaaGreatDoorW.PrintLast Go.Proofs.YthgfdnffnbclpaaGreatDoorW.PrintMore
theorem kindsE_stay (cols oc : List S78) (cs ns : List Int) : ∀ (l : List Int) (e : Int), e ≠ 0 → kindsE cols oc cs ns l e = e
 | [], e, _ => rfl
 | c :: r, e, h => by
  show kindsE cols oc cs ns r (askE e _ 79) = e
  have : askE e ((rd_T78 cols (rd cs (idxI c 0 ns))).f1 != (rd_T78 oc c).f1) 79 = e := if_neg h
  rw [this]
  exact kindsE_stay cols oc cs ns r e h
theorem refS_none {s : List S49} {cols : List S78} {rs : List S75} {d : S105} (h : findP d.f1 0 s < 0) : refS s cols rs d = (rs, 71) := by
 unfold refS; rw [if_pos h]
theorem idxI_nodup : ∀ (l : List Int) (i j : Nat) (hj : j < l.length), l.Nodup → idxI l[j] i l = ((i + j : Nat) : Int)
 | x :: r, i, 0, _, _ => by rw [idxI]; simp
 | x :: r, i, j + 1, hj, h => by
  rw [List.nodup_cons] at h
  have hj2 : j < r.length := by simpa using hj
  have e : (x :: r)[j + 1] = r[j] := rfl
  rw [e, idxI, if_neg (fun he => h.1 (by rw [he]; exact List.getElem_mem hj2)), idxI_nodup r (i + 1) j hj2 h.2]
  omega
theorem idxI_iff {l : List Int} (h : l.Nodup) {c : Int} (hc : c ∈ l) {j : Nat} (hj : j < l.length) : l[j] = c ↔ (idxI c 0 l).toNat = j := by
 obtain ⟨m, hm, rfl⟩ := List.getElem_of_mem hc
 rw [idxI_nodup l 0 m hm h]
 constructor
 ·intro e
  have h1 := idxI_nodup l 0 j hj h
  have h2 := idxI_nodup l 0 m hm h
  rw [e] at h1
  omega
 ·intro e
  have : m = j := by omega
  subst this; rfl
end Go.Proofs.YthgfdnffnbclpaaGreatDoor.PAll
