import Derived.Test.YthgfdnffnbclpaaGreatDoorSQC20
import Derived.Test.YthgfdnffnbclpaaGreatDoorSQC22
set_option linter.unusedVariables false
set_option linter.unusedSimpArgs false
namespace Go.Proofs.YthgfdnffnbclpaaGreatDoor.PAll
open Go.RowKit Go.Proofs.YthgfdnffnbclpaaGreatDoorW.PrintWords Go.Proofs.YthgfdnffnbclpaaGreatDoorW.PrintLast Go.Proofs.YthgfdnffnbclpaaGreatDoorW.PrintMore
theorem two {w : World} {W : World} {A B : Array Value} {t1 t2 : TypeId} (hW : (w.alloc (Obj.cells A t1)).alloc (Obj.cells B t2) = W) :
  W.heap[w.heap.size]? = some (.cells A t1 (0, 0)) ∧ W.heap[w.heap.size + 1]? = some (.cells B t2 (0, 0)) ∧ Below w.heap.size w W := by
 subst hW
 have s1 : (w.alloc (Obj.cells A t1)).heap.size = w.heap.size + 1 := Array.size_push _
 have h1 := Go.Deep.blk_alloc_new w (Obj.cells A t1)
 have h2 := Go.Deep.blk_alloc_new (w.alloc (Obj.cells A t1)) (Obj.cells B t2)
 rw [s1] at h2
 exact ⟨zai h1 _, h2, zac (zac (Below.refl _ _) _) _⟩
set_option maxRecDepth 100000 in
theorem zat {fn : Func} {p u : Tmp} {ty : TypeId} (h : fn.results = #[.cell p ty, .tmp u]) (tmps : Array Value) (w : World) (g : Nat) (cs : Array Value) (v : Value)
  (hp : tmps.getD p undef = .pointer (some ⟨g, 0, none⟩)) (hv : tmps.getD u undef = v) (hl : (loadVar ty ⟨g, 0, none⟩).run Tryz.prog w = .ok (.agg cs) w) :
  (results fn tmps).run Tryz.prog w = .ok (.tuple #[.agg cs, v]) w := by
 rw [results_cell_tmp h, hp, hv]
 show ((loadVar ty ⟨g, 0, none⟩).run Tryz.prog w).andThen _ = _
 rw [hl]
 rfl
theorem zht {w : World} {g : Nat} {a b c d e : Value} (hg : w.heap[g]? = some (.cells #[a, b, c, d, e] 72 (0, 0))) : (loadVar 72 ⟨g, 0, none⟩).run Tryz.prog w = .ok (.agg #[a, b, c, d, e]) w :=
 run_loadVar_row w g 72 72 #[a, b, c, d, e] (0, 0) _ hg Tryz.underlying72 rfl (by kernel_rfl)
def tabR (cols : List S78) (keys : List (List ByteArray)) : List (List Int) × Int := if zdk cols = true then zbA cols keys [] else ([], 70)
theorem zjR {x : S109} (h : defB x = true) : x.f1 = 0 ∨ x.f1 = 1 ∨ x.f1 = 2 ∨ x.f1 = 3 := by
 unfold defB at h
 by_cases h0 : x.f1 = 0
 ·exact .inl h0
 by_cases h2 : x.f1 = 2
 ·exact .inr (.inr (.inl h2))
 by_cases h13 : x.f1 = 1 ∨ x.f1 = 3
 ·rcases h13 with h | h
  ·exact .inr (.inl h)
  ·exact .inr (.inr (.inr h))
 ·rw [if_neg h0, if_neg h2, if_neg h13, Bool.and_false] at h
  cases h
theorem zeG {α : Type} [DecidableEq α] : ∀ (l S : List α), l.Nodup → (∀ x ∈ l, x ∉ S) → distP S l = true
 | [], _, _, _ => by rw [distP]
 | x :: r, S, h, hs => by
  rw [List.nodup_cons] at h
  rw [distP, if_neg (fun hm => hs x List.mem_cons_self ((zaQ _ _).1 hm))]
  refine zeG r _ h.2 (fun y hy hm => ?_)
  simp only [List.mem_append, List.mem_cons, List.not_mem_nil, or_false] at hm
  rcases hm with hm | hm
  all_goals first | exact hs y (List.mem_cons_of_mem _ hy) hm | (subst hm; exact h.1 hy)
theorem zc6 {α : Type} [DecidableEq α] (l : List α) : distP [] l = true ↔ l.Nodup := ⟨fun h => (zbU l [] h).1, fun h => zeG l [] h (fun x _ hx => by cases hx)⟩
theorem zew {cols : List S78} {l : List ByteArray} (h : -1 ∉ colsN cols l) : distP [] (colsN cols l) = zbJ [] l := by
 rw [← zbD l [] [] (fun x => Iff.rfl), Bool.eq_iff_iff, zc6, zc6]
 exact ⟨fun hn => (List.pairwise_map.1 hn).imp (fun h e => h (by rw [e])), fun hn => zbQ cols l hn h⟩
theorem zjj {cols : List S78} {ks : List (List Int)} {l : List ByteArray} (h : -1 ∈ colsN cols l) : keyS cols ks l = (ks, 71) := by
 unfold keyS
 rw [decide_eq_true h]
 cases distP [] (colsN cols l) <;> simp [askE]
theorem zh4 {cols : List S78} {ks : List (List Int)} {l : List ByteArray} (h : -1 ∉ colsN cols l) (hq : zbJ [] l = false) : keyS cols ks l = (ks, 70) := by
 unfold keyS
 rw [decide_eq_false h, zew h, hq]
 simp [askE]
theorem zjP {cols : List S78} {ks : List (List Int)} {l : List ByteArray} (h : -1 ∉ colsN cols l) (hq : zbJ [] l = true) : keyS cols ks l = (ks ++ [sortI (colsN cols l)], 0) := by
 unfold keyS
 rw [decide_eq_false h, zew h, hq]
 simp [askE]
theorem zdd {cols : List S78} {l : List ByteArray} (h : -1 ∈ colsN cols l) : zhP cols l = ([], 71) := if_pos h
theorem zc4 {cols : List S78} {l : List ByteArray} (h : -1 ∉ colsN cols l) : zhP cols l = (colsN cols l, 0) := if_neg h
set_option maxHeartbeats 4000000 in
set_option maxRecDepth 100000 in
theorem zgC (nm : ByteArray) (A3 : Option Addr) (c3 : Nat) (defs : List S109) (A4 : Option Addr) (c4 : Nat) (keys : List (List ByteArray)) (w : World)
  (h3 : Kd.C k109 w A3 defs.length defs) (hc3 : defs.length ≤ c3) (h4 : Kd.C (Kd.slice 9 Kd.string) w A4 keys.length keys) (hc4 : keys.length ≤ c4)
  (hd : ∀ x ∈ defs, defB x = true) (hl3 : defs.length ≤ 8) (hl4 : keys.length ≤ 4) (hb4 : ∀ l ∈ keys, l.length ≤ 2000000) :
  Calls Tryz.prog 50 #[.string nm, .slice A3 defs.length c3, .slice A4 keys.length c4] w fun e w' => ∃ (nm' : ByteArray) (T1 : Option Addr) (t1 u1 : Nat) (T2 : Option Addr) (t2 u2 : Nat), e = .returned (.tuple #[.agg #[.string nm', .slice T1 t1 u1, .slice T2 t2 u2, .slice none 0 0, .slice none 0 0], .int .i64 (tabR (defs.map madeC) keys).2]) ∧
   ((tabR (defs.map madeC) keys).2 = 0 → nm' = nm ∧ k78.R 83 w' w.heap.size (fun _ => True) (.slice T1 t1 u1) (defs.map madeC) ∧ (Kd.slice 3 (Kd.int .i64)).R 70 w' w.heap.size (fun _ => True) (.slice T2 t2 u2) (tabR (defs.map madeC) keys).1) ∧ Below w.heap.size w w' := by
 have H3 := Aside0.mk h3
 have H4 := Aside0.mk h4
 have HD := Aside0.mk hd
 have HB4 := Aside0.mk hb4
 have HCL : Aside0 ((defs.map madeC).length = defs.length) := ⟨List.length_map _⟩
 generalize hcols : defs.map madeC = cols at *
 have HCO := Aside0.mk hcols
 generalize hTR : tabR cols keys = TR at *
 have HTR := Aside0.mk hTR
 clear h3 h4 hd hb4 hcols hTR
 go_enter Tryz.func50, Tryz.ntmps50
 go_wp2
 generalize hW : World.alloc _ _ = W0
 obtain ⟨b1, b2, hb0⟩ := two hW
 clear hW
 obtain ⟨B, hB⟩ : ∃ B, B = w.heap.size := ⟨_, rfl⟩
 rw [← hB] at b1 b2 ⊢
 have HBe := Aside0.mk hB
 clear hB
 have B1 := Aside0.mk b1
 have B2 := Aside0.mk b2
 have HB := Aside0.mk hb0
 have HV1 : Aside0 (Kd.R k78 83 W0 w.heap.size (fun _ => True) (.slice none 0 0) ((defs.take 0).map madeC)) := ⟨Kd.R_nil _ _ _ _ _⟩
 clear b1 b2 hb0
 go_loopg [9] defs.length (fun gk v9 wx => ∃ (i : Nat) (v1 : Value), i + gk = defs.length ∧ v9 = .int .i64 i ∧ Aside0 (wx.heap[B]? = some (.cells #[.string ⟨#[]⟩, .slice none 0 0, .slice none 0 0, .slice none 0 0, .slice none 0 0] 72 (0, 0))) ∧ Aside0 (wx.heap[B + 1]? = some (.cells #[.string nm, v1, .slice none 0 0, .slice none 0 0, .slice none 0 0] 72 (0, 0))) ∧ Aside0 (Below w.heap.size w wx) ∧ Aside0 (Kd.R k78 83 wx w.heap.size (fun _ => True) v1 ((defs.take i).map madeC)))
 case atStart => exact ⟨0, _, by omega, rfl, B1, B2, HB, HV1⟩
 case round =>
  clear B1 B2 HB HV1
  obtain ⟨i, v1, hi, rfl, B1, B2, HB, HV1⟩ := hrel
  cases gk with
  | succ gk =>
   have hlt : i < defs.length := by omega
   have hii : (i : Int) < (defs.length : Int) := by omega
   have hi0 : (0 : Int) ≤ (i : Int) := by omega
   have hrd : za0 defs (i : Int) = defs[i] := by unfold za0; simp [List.getD, hlt]
   obtain ⟨ad, hA, x0, x1, x2, x3, x4, x5⟩ := zd3 H3.out (i : Int) hi0 hii
   cases hA
   rw [hrd] at x0 x1 x2 x3 x4 x5
   rw [Int.toNat_natCast] at x0 x1 x2 x3 x4 x5
   have HT : Aside0 ((defs.take (i + 1)).map madeC = (defs.take i).map madeC ++ [madeC defs[i]]) := ⟨by rw [zay hlt, List.map_append]; rfl⟩
   have hpl : ((defs.take i).map madeC).length ≤ 8 := by rw [List.length_map, List.length_take]; omega
   have HMD := Aside0.mk (zf9 defs[i] (zjR (HD.out _ (List.getElem_mem hlt))))
   have HKS : Aside0 (∀ W, Below w.heap.size w W → W.cell? (ad.add (i * 6)) = some (.string defs[i].f0) ∧ W.cell? ⟨(ad.add (i * 6)).block, (ad.add (i * 6)).off + 1, none⟩ = some (.int .u8 defs[i].f1) ∧ W.cell? ⟨(ad.add (i * 6)).block, (ad.add (i * 6)).off + 2, none⟩ = some (.bool defs[i].f2) ∧ W.cell? ⟨(ad.add (i * 6)).block, (ad.add (i * 6)).off + 3, none⟩ = some (.int .i64 defs[i].f3) ∧ W.cell? ⟨(ad.add (i * 6)).block, (ad.add (i * 6)).off + 4, none⟩ = some (.int .i64 defs[i].f4) ∧ W.cell? ⟨(ad.add (i * 6)).block, (ad.add (i * 6)).off + 5, none⟩ = some (.bool defs[i].f5)) := ⟨fun W hW => by
    exact ⟨(hW.cell (World.block_lt_of_cell? w _ x0)).trans x0, (hW.cell (World.block_lt_of_cell? w _ x1)).trans x1, (hW.cell (World.block_lt_of_cell? w _ x2)).trans x2, (hW.cell (World.block_lt_of_cell? w _ x3)).trans x3, (hW.cell (World.block_lt_of_cell? w _ x4)).trans x4, (hW.cell (World.block_lt_of_cell? w _ x5)).trans x5⟩⟩
   obtain ⟨A5, c5, e5⟩ := Kd.R_slice HV1.out
   subst e5
   clear hrd x0 x1 x2 x3 x4 x5
   generalize defs[i] = x at *
   generalize (defs.take i).map madeC = pre at *
   generalize madeC x = y at *
   have HBD := Aside0.mk (zab HB.out)
   have B1d : Aside0 (wr.drew.heap[B]? = some (.cells #[.string ⟨#[]⟩, .slice none 0 0, .slice none 0 0, .slice none 0 0, .slice none 0 0] 72 (0, 0))) := ⟨B1.out⟩
   have B2d : Aside0 (wr.drew.heap[B + 1]? = some (.cells #[.string nm, .slice A5 pre.length c5, .slice none 0 0, .slice none 0 0, .slice none 0 0] 72 (0, 0))) := ⟨B2.out⟩
   have HV1d := Aside0.mk (Kd.R_drew HV1.out)
   have hdd : wr.drew.cell? ⟨B + 1, 1, none⟩ = some (.slice A5 pre.length c5) ∧ (wr.drew.cell? (ad.add (i * 6)) = some (.string x.f0) ∧ wr.drew.cell? ⟨(ad.add (i * 6)).block, (ad.add (i * 6)).off + 1, none⟩ = some (.int .u8 x.f1) ∧ wr.drew.cell? ⟨(ad.add (i * 6)).block, (ad.add (i * 6)).off + 2, none⟩ = some (.bool x.f2) ∧ wr.drew.cell? ⟨(ad.add (i * 6)).block, (ad.add (i * 6)).off + 3, none⟩ = some (.int .i64 x.f3) ∧ wr.drew.cell? ⟨(ad.add (i * 6)).block, (ad.add (i * 6)).off + 4, none⟩ = some (.int .i64 x.f4) ∧ wr.drew.cell? ⟨(ad.add (i * 6)).block, (ad.add (i * 6)).off + 5, none⟩ = some (.bool x.f5)) := ⟨(zad B2.out 1).trans rfl, HKS.out _ HBD.out⟩
   clear HV1 B1 B2 HB
   go_wp2
   refine zbI (n := 11) (S := fun W => W.cell? ⟨B + 1, 1, none⟩ = some (.slice A5 pre.length c5) ∧ (W.cell? (ad.add (i * 6)) = some (.string x.f0) ∧ W.cell? ⟨(ad.add (i * 6)).block, (ad.add (i * 6)).off + 1, none⟩ = some (.int .u8 x.f1) ∧ W.cell? ⟨(ad.add (i * 6)).block, (ad.add (i * 6)).off + 2, none⟩ = some (.bool x.f2) ∧ W.cell? ⟨(ad.add (i * 6)).block, (ad.add (i * 6)).off + 3, none⟩ = some (.int .i64 x.f3) ∧ W.cell? ⟨(ad.add (i * 6)).block, (ad.add (i * 6)).off + 4, none⟩ = some (.int .i64 x.f4) ∧ W.cell? ⟨(ad.add (i * 6)).block, (ad.add (i * 6)).off + 5, none⟩ = some (.bool x.f5))) (ds := [10]) #[false, false, false, false, false, false, false, false, false, false, false] (by kernel_rfl) rfl rfl hdd (fun hHeld => ?_)
   clear hdd
   generalize wr.drew = W1 at *
   refine zau (i := 0) (N := some 21) (v := ?_) (a' := ?_) #[true, false, false, false, false, false, false, false, false, false, false] rfl rfl (by kernel_rfl) (fun _ _ _ h => h) (Or.inl ⟨by rfl, ?_⟩) ?_ ?_
   rotate_left
   ·intro w'; go_simp; with_reducible rfl
   rotate_left
   ·simp only [Act.put, List.setIfInBounds_toArray, List.set_cons_zero, List.set_cons_succ, zaj, zak]; rfl
   refine take_ (i := 1) (N := some 22) (v := ?_) (a' := ?_) #[true, true, false, false, false, false, false, false, false, false, false] rfl rfl (by kernel_rfl) (fun _ _ _ h => h) (Or.inl ⟨by rfl, ?_⟩) hHeld ?_ ?_
   rotate_left
   ·rintro w' ⟨s0, s1, s2, s3, s4, s5, s6⟩; go_simp; with_reducible rfl
   rotate_left
   ·simp only [Act.put, List.setIfInBounds_toArray, List.set_cons_zero, List.set_cons_succ, zaj, zak]; rfl
   refine zau (i := 2) (N := some 23) (v := ?_) (a' := ?_) #[true, true, true, false, false, false, false, false, false, false, false] rfl rfl (by kernel_rfl) (fun _ _ _ h => h) (Or.inl ⟨by rfl, ?_⟩) ?_ ?_
   rotate_left
   ·intro w'; go_simp; with_reducible rfl
   rotate_left
   ·simp only [Act.put, List.setIfInBounds_toArray, List.set_cons_zero, List.set_cons_succ, zaj, zak]; rfl
   refine zau (i := 3) (N := some 24) (v := ?_) (a' := ?_) #[true, true, true, true, false, false, false, false, false, false, false] rfl rfl (by kernel_rfl) (fun _ _ _ h => h) (Or.inl ⟨by rfl, ?_⟩) ?_ ?_
   rotate_left
   ·intro w'; go_simp; with_reducible rfl
   rotate_left
   ·simp only [Act.put, List.setIfInBounds_toArray, List.set_cons_zero, List.set_cons_succ, zaj, zak]; rfl
   refine zau (i := 4) (N := some 25) (v := ?_) (a' := ?_) #[true, true, true, true, true, false, false, false, false, false, false] rfl rfl (by kernel_rfl) (fun _ _ _ h => h) (Or.inl ⟨by rfl, ?_⟩) ?_ ?_
   rotate_left
   ·intro w'; go_simp; with_reducible rfl
   rotate_left
   ·simp only [Act.put, List.setIfInBounds_toArray, List.set_cons_zero, List.set_cons_succ, zaj, zak]; rfl
   refine take_ (i := 5) (N := some 26) (v := ?_) (a' := ?_) #[true, true, true, true, true, true, false, false, false, false, false] rfl rfl (by kernel_rfl) (fun _ _ _ h => h) (Or.inl ⟨by rfl, ?_⟩) hHeld ?_ ?_
   rotate_left
   ·rintro w' ⟨s0, s1, s2, s3, s4, s5, s6⟩; go_simp; with_reducible rfl
   rotate_left
   ·simp only [Act.put, List.setIfInBounds_toArray, List.set_cons_zero, List.set_cons_succ, zaj, zak]; rfl
   refine one_ (i := 6) (N := some 27) #[true, true, true, true, true, true, true, false, false, false, false] rfl rfl (by kernel_rfl) (by decide) (fun K hK => ?_)
   refine zgH Tryz.func102 (by kernel_rfl) rfl #[.agg #[.string x.f0, .int .u8 x.f1, .bool x.f2, .int .i64 x.f3, .int .i64 x.f4, .bool x.f5]] (by rfl) rfl rfl (by (try simp only [List.map_toArray, List.map_cons, List.map_nil]); first | done | rfl) ?_
   refine (HMD.out _).mono ?_
   rintro e W2 ⟨rfl, hb2⟩
   refine ⟨_, rfl, ?_⟩
   refine hK.out _ _ ⟨(hb2.cell (World.block_lt_of_cell? W1 _ hHeld.1)).trans hHeld.1, HKS.out _ (below_step HBD.out hb2)⟩ (fun hHeld2 => ?_)
   clear hK K
   refine za8 (a' := ?_) ?_ ?_
   rotate_left
   ·show Act.put _ (some 27) _ = _; simp only [Act.put, List.setIfInBounds_toArray, List.set_cons_zero, List.set_cons_succ, zaj, zak]; rfl
   refine one_ (i := 7) (N := some 28) #[true, true, true, true, true, true, true, true, false, false, false] rfl rfl (by kernel_rfl) (by decide) (fun K hK => ?_)
   refine za7 (by rfl) (v := .slice (some ⟨W2.heap.size, 0, none⟩) 1 1) (w1 := W2.alloc (.cells #[.string y.f0, .int .u8 y.f1, .bool y.f2, .int .i64 y.f3, .int .i64 y.f4] 83)) ?hr2 ?_
   case hr2 => first | (go_simp; done) | (go_simp; rfl)
   have hba := zac (Below.refl W2.heap.size W2) (.cells #[.string y.f0, .int .u8 y.f1, .bool y.f2, .int .i64 y.f3, .int .i64 y.f4] 83)
   refine hK.out _ _ ⟨(hba.cell (World.block_lt_of_cell? W2 _ hHeld2.1)).trans hHeld2.1, HKS.out _ (below_step (below_step HBD.out hb2) hba)⟩ (fun hHeld3 => ?_)
   clear hK K hba hHeld3
   refine za8 (a' := ?_) ?_ ?_
   rotate_left
   ·show Act.put _ (some 28) _ = _; simp only [Act.put, List.setIfInBounds_toArray, List.set_cons_zero, List.set_cons_succ, zaj, zak]; rfl
   have HB2 := Aside0.mk hb2
   have HBD2 := Aside0.mk (below_step HBD.out hb2)
   have HV2 := Aside0.mk (Kd.R_below HV1d.out hb2)
   have C2 := Aside0.mk ((hb2.block _ (zah B2d.out)).trans B2d.out)
   have C1 := Aside0.mk ((hb2.block _ (zah B1d.out)).trans B1d.out)
   refine one_ (i := 8) (N := some 29) #[true, true, true, true, true, true, true, true, true, false, false] rfl rfl (by kernel_rfl) (by decide) (fun K hK => ?_)
   refine Kd.R_append_step k78 (w0 := w) w.heap.size (by rfl) (.tmp 22) (.tmp 28) 67 83 (.agg #[(.string ⟨#[]⟩), (.int .u8 0), (.bool false), (.int .i64 0), (.int .i64 0)]) 40 rfl Tryz.underlying67 zhg rfl (by decide) (by omega) (.slice A5 pre.length c5) pre y [.string y.f0, .int .u8 y.f1, .bool y.f2, .int .i64 y.f3, .int .i64 y.f4] (fun _ => True) (fun _ => False) rfl rfl (zjg _ _ _ y) (fun _ h => h.elim) (fun _ _ => trivial) HV2.out HBD2.out HBD2.out.size (by omega) ?_
   intro v8 W5 hv8 hb8 hg8 _
   generalize hl2 : pre ++ [y] = pre2 at *
   clear hl2
   obtain ⟨A8, c8, e8⟩ := Kd.R_slice hv8
   subst e8
   have d2 := zax C2.out hg8 (Kd.R_ne HV2.out C2.out (by decide))
   have d1 := zax C1.out hg8 (Kd.R_ne HV2.out C1.out (by decide))
   refine hK.out _ _ ⟨(zad d2 1).trans rfl, HKS.out _ hb8⟩ (fun hHeld5 => ?_)
   clear hK K
   refine za8 (a' := ?_) ?_ ?_
   rotate_left
   ·show Act.put _ (some 29) _ = _; simp only [Act.put, List.setIfInBounds_toArray, List.set_cons_zero, List.set_cons_succ, zaj, zak]; rfl
   refine zau (i := 9) (N := some 30) (v := ?_) (a' := ?_) #[true, true, true, true, true, true, true, true, true, true, false] rfl rfl (by kernel_rfl) (fun _ _ _ h => h) (Or.inl ⟨by rfl, ?_⟩) ?_ ?_
   rotate_left
   ·intro w'; go_simp; with_reducible rfl
   rotate_left
   ·simp only [Act.put, List.setIfInBounds_toArray, List.set_cons_zero, List.set_cons_succ, zaj, zak]; rfl
   refine zfh (i := 10) (N := none) #[true, true, true, true, true, true, true, true, true, true, true] rfl rfl (by kernel_rfl) (by decide) (fun K hK => ?_)
   refine zaL (by rfl) 67 (.tmp 30) (.tmp 29) rfl rfl rfl rfl (zaG 67 (.slice A8 pre2.length c8) [.slice A8 pre2.length c8] d2 rfl (by kernel_rfl) (by show 1 + 1 ≤ 5; omega) (by simp [Value.oneCell'])) ?_
   refine hK.out _ _ ?_
   clear hK K
   refine zc8 (by kernel_rfl) ?_
   have hB1 : w.heap.size ≤ B + 1 := by rw [HBe.out]; omega
   have HW6 := Aside0.mk (hb8.setCell (p := ⟨B + 1, 1, none⟩) hB1 (.slice A8 pre2.length c8))
   have HV6 := Aside0.mk (zaN hv8 d2 (by decide) (zaz W5 (B + 1) 1 (.slice A8 pre2.length c8)))
   have D1 := Aside0.mk (zbB d1 (p := ⟨B + 1, 1, none⟩) (by show B ≠ B + 1; omega) (.slice A8 pre2.length c8))
   have D2 := Aside0.mk (zas d2 1 (.slice A8 pre2.length c8) rfl)
   clear d1 d2 hv8 hb8 hg8 hHeld hHeld2 hHeld5 hb2 HB2 HBD2 HV2 C1 C2 HV1d B1d B2d HBD HKS hB1
   go_wp2
   go_roundg gk
   case measure => omega
   case rel => exact ⟨i + 1, _, by omega, by first | rfl | (simp; done) | (simp; unfold wrap64; omega), D1, D2, HW6, ⟨by rw [HT.out]; exact HV6.out⟩⟩
  | zero =>
   have hii : ¬ (i : Int) < (defs.length : Int) := by omega
   have e : defs.take i = defs := List.take_of_length_le (by omega)
   rw [e] at HV1
   rw [HCO.out] at HV1
   obtain ⟨A5, c5, e5⟩ := Kd.R_slice HV1.out
   subst e5
   have hcl : cols.length ≤ 8 := by rw [HCL.out]; exact hl3
   have HCW := Aside0.mk (fun W (hW : Below wr.heap.size wr W) => zfY A5 c5 cols W (Kd.C_below (Kd.R_reads' HV1.out).2.2 hW) (Kd.R_reads' HV1.out).2.1)
   clear e hi H3 HD
   have z1 : wr.cell? ⟨B + 1, 1, none⟩ = some (.slice A5 cols.length c5) := (zad B2.out 1).trans rfl
   by_cases hcb : zdk cols = true
   case neg =>
    have e1 : zdk cols = false := by simpa using hcb
    have HE : Aside0 (TR = ([], 70)) := ⟨by rw [← HTR.out]; exact if_neg hcb⟩
    rw [e1] at HCW
    clear hcb e1
    go_wp2_with (go_at_call 103; refine (HCW.out _ (Below.refl _ _)).mono ?_; rintro e w1 ⟨rfl, hb1⟩; have D1 := Aside0.mk ((hb1.block _ (zah B1.out)).trans B1.out); have HW1 := Aside0.mk (below_step HB.out hb1); obtain ⟨y0, y1, y2, y3, y4, yf⟩ := zaT D1.out; clear hb1)
    refine bodyPost_ret (zat rfl _ _ B _ _ rfl rfl (zht (five D1.out _ _ _ _ _))) rfl ?_
    have hB0 : w.heap.size ≤ B := by rw [HBe.out]; exact Nat.le_refl _
    rw [HE.out]
    exact ⟨_, _, _, _, _, _, _, rfl, fun h => absurd h (by decide), (((((HW1.out).setCell (p := ⟨B, 0, none⟩) hB0 _).setCell (p := ⟨B, 1, none⟩) hB0 _).setCell (p := ⟨B, 2, none⟩) hB0 _).setCell (p := ⟨B, 3, none⟩) hB0 _).setCell (p := ⟨B, 4, none⟩) hB0 _⟩
   case pos =>
    have HE : Aside0 (TR = zbA cols keys []) := ⟨by rw [← HTR.out]; exact if_pos hcb⟩
    rw [hcb] at HCW
    have hB0 : w.heap.size ≤ B := by rw [HBe.out]; exact Nat.le_refl _
    go_wp2_with (go_at_call 103; refine (HCW.out _ (Below.refl _ _)).mono ?_; rintro e w1 ⟨rfl, hb1⟩; have D1 := Aside0.mk ((hb1.block _ (zah B1.out)).trans B1.out); have D2 := Aside0.mk ((hb1.block _ (zah B2.out)).trans B2.out); have HW1 := Aside0.mk (below_step HB.out hb1); have HV1 := Aside0.mk (Kd.R_below HV1.out hb1); clear hb1)
    have HV2 : Aside0 ((Kd.slice 3 (Kd.int .i64)).R 70 w1 w.heap.size (fun _ => True) (.slice none 0 0) []) := ⟨Kd.R_nil _ _ _ _ _⟩
    clear hcb HCW z1 B1 B2 HB HTR HCO
    go_loopg [10] keys.length (fun gk v10 wx => ∃ (i : Nat) (v2 : Value) (ks : List (List Int)), i + gk = keys.length ∧ v10 = .int .i64 i ∧ Aside0 (wx.heap[B]? = some (.cells #[.string ⟨#[]⟩, .slice none 0 0, .slice none 0 0, .slice none 0 0, .slice none 0 0] 72 (0, 0))) ∧ Aside0 (wx.heap[B + 1]? = some (.cells #[.string nm, .slice A5 cols.length c5, v2, .slice none 0 0, .slice none 0 0] 72 (0, 0))) ∧ Aside0 (Below w.heap.size w wx) ∧ Aside0 (Kd.R k78 83 wx w.heap.size (fun _ => True) (.slice A5 cols.length c5) cols) ∧ Aside0 ((Kd.slice 3 (Kd.int .i64)).R 70 wx w.heap.size (fun _ => True) v2 ks) ∧ Aside0 (ks.length ≤ i) ∧ Aside0 (TR = zbA cols (keys.drop i) ks))
    case atStart => exact ⟨0, _, [], by omega, rfl, D1, D2, HW1, HV1, HV2, ⟨Nat.le_refl _⟩, ⟨by simpa using HE.out⟩⟩
    case round =>
     clear D1 D2 HW1 HV1 HV2 HE hii
     obtain ⟨j, v2, ks, hj, rfl, B1, B2, HB, HV1, HV2, HKL, HTR⟩ := hrel
     cases gk with
     | zero =>
      have hjj : ¬ (j : Int) < (keys.length : Int) := by omega
      have he := HTR.out
      rw [List.drop_eq_nil_of_le (by omega), zbA] at he
      have HE := Aside0.mk he
      obtain ⟨A6, c6, e6⟩ := Kd.R_slice HV2.out
      subst e6
      obtain ⟨x0, x1, x2, x3, x4, _⟩ := zaT B2.out
      obtain ⟨y0, y1, y2, y3, y4, yf⟩ := zaT B1.out
      clear he HTR
      go_wp2
      have d2 := five B1.out (.string nm) (.slice A5 cols.length c5) (.slice A6 ks.length c6) (.slice none 0 0) (.slice none 0 0)
      refine bodyPost_ret (zat rfl _ _ B _ _ rfl rfl (zht d2)) rfl ?_
      have g5 : ∀ a b c d e : Value, wr.grownBy (((((wr.setCell ⟨B, 0, none⟩ a).setCell ⟨B, 1, none⟩ b).setCell ⟨B, 2, none⟩ c).setCell ⟨B, 3, none⟩ d).setCell ⟨B, 4, none⟩ e) (some B) := fun a b c d e => zae (zae (zae (zae (zaz _ _ _ _) (zaz _ _ _ _)) (zaz _ _ _ _)) (zaz _ _ _ _)) (zaz _ _ _ _)
      rw [HE.out]
      exact ⟨_, _, _, _, _, _, _, rfl, fun _ => ⟨rfl, zaN HV1.out B1.out (by decide) (g5 _ _ _ _ _), zaN HV2.out B1.out (by decide) (g5 _ _ _ _ _)⟩, (((((HB.out).setCell (p := ⟨B, 0, none⟩) hB0 _).setCell (p := ⟨B, 1, none⟩) hB0 _).setCell (p := ⟨B, 2, none⟩) hB0 _).setCell (p := ⟨B, 3, none⟩) hB0 _).setCell (p := ⟨B, 4, none⟩) hB0 _⟩
     | succ gk =>
      have hlt : j < keys.length := by omega
      have hjj : (j : Int) < (keys.length : Int) := by omega
      have hj0 : (0 : Int) ≤ (j : Int) := by omega
      have hrd : zdr keys (j : Int) = keys[j] := by simp [zdr, List.getD, hlt]
      obtain ⟨ad, Ak, ck, hA, hx0, hl0, hC0⟩ := zj0 H4.out (j : Int) hj0 hjj
      cases hA
      rw [hrd] at hx0 hl0 hC0
      rw [Int.toNat_natCast] at hx0
      have he := HTR.out
      rw [List.drop_eq_getElem_cons hlt, zbA] at he
      have HTS := Aside0.mk he
      obtain ⟨A6, c6, e6⟩ := Kd.R_slice HV2.out
      subst e6
      have hk9 := HB4.out _ (List.getElem_mem hlt)
      have HKC := Aside0.mk (fun W (hW : Below w.heap.size w W) => Kd.C_below hC0 hW)
      have HNW := Aside0.mk (fun W (hW : Below wr.heap.size wr W) => zbo nm A5 c5 cols A6 ks.length c6 none 0 0 none 0 0 Ak ck keys[j] W (Kd.C_below (Kd.R_reads' HV1.out).2.2 hW) (Kd.R_reads' HV1.out).2.1 (Kd.C_below hC0 (below_step HB.out hW)) hl0 hk9)
      have HTW := Aside0.mk (fun W (hW : Below w.heap.size w W) => zb4 Ak ck keys[j] W (Kd.C_below hC0 hW) hl0)
      have HXK : Aside0 (∀ W, Below w.heap.size w W → W.cell? (ad.add j) = some (.slice Ak keys[j].length ck)) := ⟨fun W hW => (hW.cell (World.block_lt_of_cell? w _ hx0)).trans hx0⟩
      have KC : ∀ W, Below wr.heap.size wr W → W.cell? (ad.add j) = some (.slice Ak keys[j].length ck) ∧ W.cell? ⟨B + 1, 0, none⟩ = some (.string nm) ∧ W.cell? ⟨B + 1, 1, none⟩ = some (.slice A5 cols.length c5) ∧ W.cell? ⟨B + 1, 2, none⟩ = some (.slice A6 ks.length c6) ∧ W.cell? ⟨B + 1, 3, none⟩ = some (.slice none 0 0) ∧ W.cell? ⟨B + 1, 4, none⟩ = some (.slice none 0 0) := fun W hW => by
       obtain ⟨z0, z1, z2, z3, z4, _⟩ := zaT ((hW.block _ (zah B2.out)).trans B2.out)
       exact ⟨HXK.out _ (below_step HB.out hW), z0, z1, z2, z3, z4⟩
      have HKB := Aside0.mk KC
      have HBW0 := Aside0.mk (zab (Below.refl wr.heap.size wr))
      obtain ⟨d0, d1, d2, d3, d4, d5⟩ := KC _ HBW0.out
      clear hrd hC0 hx0 KC he HTR hk9
      by_cases q : -1 ∈ colsN cols keys[j]
      ·have HE : Aside0 (TR = (ks, 71)) := ⟨by have h := HTS.out; rw [zjj q, if_neg (show ¬ ((ks, (71 : Int)).2 = 0) from (by decide : ¬ ((71 : Int) = 0)))] at h; exact h⟩
       rw [zdd q] at HNW
       clear q HTS
       generalize keys[j] = l at *
       go_wp2
       go_region_held3 (fun W => W.cell? (ad.add j) = some (.slice Ak l.length ck) ∧ W.cell? ⟨B + 1, 0, none⟩ = some (.string nm) ∧ W.cell? ⟨B + 1, 1, none⟩ = some (.slice A5 cols.length c5) ∧ W.cell? ⟨B + 1, 2, none⟩ = some (.slice A6 ks.length c6) ∧ W.cell? ⟨B + 1, 3, none⟩ = some (.slice none 0 0) ∧ W.cell? ⟨B + 1, 4, none⟩ = some (.slice none 0 0)) (first | exact HKB.out _ HBW0.out | exact HKB.out _ (below_step HBW0.out hb1)) ((go_at_call 104; refine (HNW.out _ HBW0.out).mono ?_; rintro e w1 ⟨vn, rfl, hn1, hb1⟩))
       have HWR := Aside0.mk (below_step HBW0.out hb1)
       have D1 := Aside0.mk ((HWR.out.block _ (zah B1.out)).trans B1.out)
       have HW1 := Aside0.mk (below_step HB.out HWR.out)
       obtain ⟨y0, y1, y2, y3, y4, yf⟩ := zaT D1.out
       obtain ⟨An, cn, en⟩ := Kd.R_slice hn1
       subst en
       clear hb1 hn1 d0 d1 d2 d3 d4 d5 HKB HNW
       go_wp2
       refine bodyPost_ret (zat rfl _ _ B _ _ rfl rfl (zht (five D1.out _ _ _ _ _))) rfl ?_
       rw [HE.out]
       exact ⟨_, _, _, _, _, _, _, rfl, fun h => absurd (show (71 : Int) = 0 from h) (by decide), (((((HW1.out).setCell (p := ⟨B, 0, none⟩) hB0 _).setCell (p := ⟨B, 1, none⟩) hB0 _).setCell (p := ⟨B, 2, none⟩) hB0 _).setCell (p := ⟨B, 3, none⟩) hB0 _).setCell (p := ⟨B, 4, none⟩) hB0 _⟩
      rw [zc4 q] at HNW
      cases q2 : zbJ [] keys[j] with
      | false =>
       have HE : Aside0 (TR = (ks, 70)) := ⟨by have h := HTS.out; rw [zh4 q q2, if_neg (show ¬ ((ks, (70 : Int)).2 = 0) from (by decide : ¬ ((70 : Int) = 0)))] at h; exact h⟩
       rw [q2] at HTW
       clear q q2 HTS
       generalize keys[j] = l at *
       generalize colsN cols l = nn at *
       go_wp2
       go_region_held3 (fun W => W.cell? (ad.add j) = some (.slice Ak l.length ck) ∧ W.cell? ⟨B + 1, 0, none⟩ = some (.string nm) ∧ W.cell? ⟨B + 1, 1, none⟩ = some (.slice A5 cols.length c5) ∧ W.cell? ⟨B + 1, 2, none⟩ = some (.slice A6 ks.length c6) ∧ W.cell? ⟨B + 1, 3, none⟩ = some (.slice none 0 0) ∧ W.cell? ⟨B + 1, 4, none⟩ = some (.slice none 0 0)) (first | exact HKB.out _ HBW0.out | exact HKB.out _ (below_step HBW0.out hb1)) ((go_at_call 104; refine (HNW.out _ HBW0.out).mono ?_; rintro e w1 ⟨vn, rfl, hn1, hb1⟩))
       have HWR := Aside0.mk (below_step HBW0.out hb1)
       have HW1 := Aside0.mk (below_step HB.out HWR.out)
       have e0 := HXK.out _ HW1.out
       obtain ⟨An, cn, en⟩ := Kd.R_slice hn1
       subst en
       clear hb1 hn1 d0 d1 d2 d3 d4 d5 HKB HNW
       go_wp2_with (go_at_call 105; refine (HTW.out _ HW1.out).mono ?_; rintro e w2 ⟨rfl, hb2⟩; have D1 := Aside0.mk ((hb2.block _ (Nat.lt_of_lt_of_le (zah B1.out) HWR.out.size)).trans ((HWR.out.block _ (zah B1.out)).trans B1.out)); have HW2 := Aside0.mk (below_step HW1.out hb2); obtain ⟨y0, y1, y2, y3, y4, yf⟩ := zaT D1.out; clear hb2)
       refine bodyPost_ret (zat rfl _ _ B _ _ rfl rfl (zht (five D1.out _ _ _ _ _))) rfl ?_
       rw [HE.out]
       exact ⟨_, _, _, _, _, _, _, rfl, fun h => absurd (show (70 : Int) = 0 from h) (by decide), (((((HW2.out).setCell (p := ⟨B, 0, none⟩) hB0 _).setCell (p := ⟨B, 1, none⟩) hB0 _).setCell (p := ⟨B, 2, none⟩) hB0 _).setCell (p := ⟨B, 3, none⟩) hB0 _).setCell (p := ⟨B, 4, none⟩) hB0 _⟩
      | true =>
       have HE : Aside0 (TR = zbA cols (keys.drop (j + 1)) (ks ++ [sortI (colsN cols keys[j])])) := ⟨by have h := HTS.out; rw [zjP q q2, if_pos rfl] at h; exact h⟩
       have hnl : (colsN cols keys[j]).length ≤ 2000000 := by rw [zbL]; exact HB4.out _ (List.getElem_mem hlt)
       rw [q2] at HTW
       clear q q2 HTS
       generalize keys[j] = l at *
       generalize colsN cols l = nn at *
       go_wp2
       go_region_held3 (fun W => W.cell? (ad.add j) = some (.slice Ak l.length ck) ∧ W.cell? ⟨B + 1, 0, none⟩ = some (.string nm) ∧ W.cell? ⟨B + 1, 1, none⟩ = some (.slice A5 cols.length c5) ∧ W.cell? ⟨B + 1, 2, none⟩ = some (.slice A6 ks.length c6) ∧ W.cell? ⟨B + 1, 3, none⟩ = some (.slice none 0 0) ∧ W.cell? ⟨B + 1, 4, none⟩ = some (.slice none 0 0)) (first | exact HKB.out _ HBW0.out | exact HKB.out _ (below_step HBW0.out hb1)) ((go_at_call 104; refine (HNW.out _ HBW0.out).mono ?_; rintro e w1 ⟨vn, rfl, hn1, hb1⟩))
       have HWR := Aside0.mk (below_step HBW0.out hb1)
       have HW1 := Aside0.mk (below_step HB.out HWR.out)
       have e0 := HXK.out _ HW1.out
       obtain ⟨An, cn, en⟩ := Kd.R_slice hn1
       subst en
       have HN1 := Aside0.mk hn1
       clear hb1 hn1 d0 d1 d2 d3 d4 d5 HKB HNW
       go_wp2_with (go_at_call 105; refine (HTW.out _ HW1.out).mono ?_; rintro e w2 ⟨rfl, hb2⟩; have HWR2 := Aside0.mk (below_step HWR.out hb2); have HW2 := Aside0.mk (below_step HW1.out hb2); have HN2 := Aside0.mk (Kd.R_below HN1.out hb2); clear hb2)
       have D1 := Aside0.mk ((HWR2.out.block _ (zah B1.out)).trans B1.out)
       have D2 := Aside0.mk ((HWR2.out.block _ (zah B2.out)).trans B2.out)
       have HV12 := Aside0.mk (Kd.R_below HV1.out HWR2.out)
       have HV22 := Aside0.mk (Kd.R_below HV2.out HWR2.out)
       clear HWR HWR2 HW1 e0 HN1 B1 B2 HV1 HV2 HB HBW0 HTW HXK
       have hdd : w2.drew.cell? ⟨B + 1, 2, none⟩ = some (.slice A6 ks.length c6) := (zad D2.out 2).trans rfl
       have HBD := Aside0.mk (zab HW2.out)
       have B1d : Aside0 (w2.drew.heap[B]? = some (.cells #[.string ⟨#[]⟩, .slice none 0 0, .slice none 0 0, .slice none 0 0, .slice none 0 0] 72 (0, 0))) := ⟨D1.out⟩
       have B2d : Aside0 (w2.drew.heap[B + 1]? = some (.cells #[.string nm, .slice A5 cols.length c5, .slice A6 ks.length c6, .slice none 0 0, .slice none 0 0] 72 (0, 0))) := ⟨D2.out⟩
       have HV1d := Aside0.mk (Kd.R_drew HV12.out)
       have HV2d := Aside0.mk (Kd.R_drew HV22.out)
       have HNd := Aside0.mk (Kd.R_reads' (Kd.R_drew HN2.out))
       clear HV12 HV22 HN2 D1 D2 HW2
       go_wp2
       refine zbI (n := 8) (S := fun W => W.cell? ⟨B + 1, 2, none⟩ = some (.slice A6 ks.length c6)) (ds := [7]) #[false, false, false, false, false, false, false, false] (by kernel_rfl) rfl rfl hdd (fun hHeld => ?_)
       clear hdd
       generalize w2.drew = W1 at *
       refine zau (i := 0) (N := some 61) (v := ?_) (a' := ?_) #[true, false, false, false, false, false, false, false] rfl rfl (by kernel_rfl) (fun _ _ _ h => h) (Or.inl ⟨by rfl, ?_⟩) ?_ ?_
       rotate_left
       ·intro w'; go_simp; with_reducible rfl
       rotate_left
       ·simp only [Act.put, List.setIfInBounds_toArray, List.set_cons_zero, List.set_cons_succ, zaj, zak]; rfl
       refine take_ (i := 1) (N := some 62) (v := ?_) (a' := ?_) #[true, true, false, false, false, false, false, false] rfl rfl (by kernel_rfl) (fun _ _ _ h => h) (Or.inl ⟨by rfl, ?_⟩) hHeld ?_ ?_
       rotate_left
       ·rintro w' s0; go_simp; with_reducible rfl
       rotate_left
       ·simp only [Act.put, List.setIfInBounds_toArray, List.set_cons_zero, List.set_cons_succ, zaj, zak]; rfl
       refine zau (i := 2) (N := some 63) (v := ?_) (a' := ?_) #[true, true, true, false, false, false, false, false] rfl rfl (by kernel_rfl) (fun _ _ _ h => h) (Or.inl ⟨by rfl, ?_⟩) ?_ ?_
       rotate_left
       ·intro w'; go_simp; with_reducible rfl
       rotate_left
       ·simp only [Act.put, List.setIfInBounds_toArray, List.set_cons_zero, List.set_cons_succ, zaj, zak]; rfl
       refine one_ (i := 3) (N := some 64) #[true, true, true, true, false, false, false, false] rfl rfl (by kernel_rfl) (by decide) (fun K hK => ?_)
       refine zgH Tryz.func43 (by kernel_rfl) rfl #[.slice An nn.length cn] (by rfl) rfl rfl (by (try simp only [List.map_toArray, List.map_cons, List.map_nil]); first | done | rfl) ?_
       refine (zdA An cn nn (sortI nn) W1 HNd.out.2.2 HNd.out.2.1 (by omega) (zbK nn) (zbz nn)).mono ?_
       rintro e W3 ⟨vs, rfl, hs3, hb3⟩
       obtain ⟨As, cs, es⟩ := Kd.R_slice hs3
       subst es
       refine ⟨_, rfl, ?_⟩
       refine hK.out _ _ ((hb3.cell (World.block_lt_of_cell? W1 _ hHeld)).trans hHeld) (fun hHeld2 => ?_)
       clear hK K
       refine za8 (a' := ?_) ?_ ?_
       rotate_left
       ·show Act.put _ (some 64) _ = _; simp only [Act.put, List.setIfInBounds_toArray, List.set_cons_zero, List.set_cons_succ, zaj, zak]; rfl
       refine one_ (i := 4) (N := some 65) #[true, true, true, true, true, false, false, false] rfl rfl (by kernel_rfl) (by decide) (fun K hK => ?_)
       refine za7 (by rfl) (v := .slice (some ⟨W3.heap.size, 0, none⟩) 1 1) (w1 := W3.alloc (.cells #[.slice As (sortI nn).length cs] 70)) ?hr2 ?_
       case hr2 => first | (go_simp; done) | (go_simp; rfl)
       have hba := zac (Below.refl W3.heap.size W3) (.cells #[.slice As (sortI nn).length cs] 70)
       refine hK.out _ _ ((hba.cell (World.block_lt_of_cell? W3 _ hHeld2)).trans hHeld2) (fun hHeld3 => ?_)
       clear hK K hba hHeld3
       refine za8 (a' := ?_) ?_ ?_
       rotate_left
       ·show Act.put _ (some 65) _ = _; simp only [Act.put, List.setIfInBounds_toArray, List.set_cons_zero, List.set_cons_succ, zaj, zak]; rfl
       have HB3 := Aside0.mk hb3
       have HBD3 := Aside0.mk (below_step HBD.out hb3)
       have HV13 := Aside0.mk (Kd.R_below HV1d.out hb3)
       have HV23 := Aside0.mk (Kd.R_below HV2d.out hb3)
       have C1 := Aside0.mk ((hb3.block _ (zah B1d.out)).trans B1d.out)
       have C2 := Aside0.mk ((hb3.block _ (zah B2d.out)).trans B2d.out)
       have HS3 := Aside0.mk hs3
       have hkl := HKL.out
       refine one_ (i := 5) (N := some 66) #[true, true, true, true, true, true, false, false] rfl rfl (by kernel_rfl) (by decide) (fun K hK => ?_)
       refine Kd.R_append_step (Kd.slice 3 (Kd.int .i64)) (w0 := w) w.heap.size (by rfl) (.tmp 62) (.tmp 65) 68 70 (.slice none 0 0) 24 rfl Tryz.underlying68 zhp rfl (by decide) (by omega) (.slice A6 ks.length c6) ks (sortI nn) [.slice As (sortI nn).length cs] (fun _ => True) (fun k => W1.heap.size ≤ k) rfl rfl ?aP ?aQ (fun _ _ => trivial) HV23.out HBD3.out HBD3.out.size (by omega) ?_
       case aP => exact Kd.M_row (Kd.R_lower (Kd.R_mono (Kd.R_bound HS3.out) (fun _ hk => hk.2.1)) HBD.out.size)
       case aQ => exact fun k hk => ⟨trivial, fun he => by have := Kd.R_lt HV2d.out k he.symm; omega⟩
       intro v8 W5 hv8 hb8 hg8 _
       have hl2 : (ks ++ [sortI nn]).length = ks.length + 1 := by simp
       have HL2 := Aside0.mk hl2
       clear hl2
       generalize ks ++ [sortI nn] = ks2 at *
       obtain ⟨A8, c8, e8⟩ := Kd.R_slice hv8
       subst e8
       have d2 := zax C2.out hg8 (Kd.R_ne HV23.out C2.out (by decide))
       have d1 := zax C1.out hg8 (Kd.R_ne HV23.out C1.out (by decide))
       refine hK.out _ _ ((zad d2 2).trans rfl) (fun hHeld5 => ?_)
       clear hK K
       refine za8 (a' := ?_) ?_ ?_
       rotate_left
       ·show Act.put _ (some 66) _ = _; simp only [Act.put, List.setIfInBounds_toArray, List.set_cons_zero, List.set_cons_succ, zaj, zak]; rfl
       refine zau (i := 6) (N := some 67) (v := ?_) (a' := ?_) #[true, true, true, true, true, true, true, false] rfl rfl (by kernel_rfl) (fun _ _ _ h => h) (Or.inl ⟨by rfl, ?_⟩) ?_ ?_
       rotate_left
       ·intro w'; go_simp; with_reducible rfl
       rotate_left
       ·simp only [Act.put, List.setIfInBounds_toArray, List.set_cons_zero, List.set_cons_succ, zaj, zak]; rfl
       refine zfh (i := 7) (N := none) #[true, true, true, true, true, true, true, true] rfl rfl (by kernel_rfl) (by decide) (fun K hK => ?_)
       refine zaL (by rfl) 68 (.tmp 67) (.tmp 66) rfl rfl rfl rfl (zaG 68 (.slice A8 ks2.length c8) [.slice A8 ks2.length c8] d2 rfl (by kernel_rfl) (by show 2 + 1 ≤ 5; omega) (by simp [Value.oneCell'])) ?_
       refine hK.out _ _ ?_
       clear hK K
       refine zc8 (by kernel_rfl) ?_
       have hB1 : w.heap.size ≤ B + 1 := by rw [HBe.out]; omega
       have HW6 := Aside0.mk (hb8.setCell (p := ⟨B + 1, 2, none⟩) hB1 (.slice A8 ks2.length c8))
       have HV6 := Aside0.mk (zaN hv8 d2 (by decide) (zaz W5 (B + 1) 2 (.slice A8 ks2.length c8)))
       have HV5 := Aside0.mk (zaN (Kd.R_over' HV13.out (Kd.R_typed HV23.out) (by decide) hg8) d2 (by decide) (zaz W5 (B + 1) 2 (.slice A8 ks2.length c8)))
       have D1 := Aside0.mk (zbB d1 (p := ⟨B + 1, 2, none⟩) (by show B ≠ B + 1; omega) (.slice A8 ks2.length c8))
       have D2 := Aside0.mk (zas d2 2 (.slice A8 ks2.length c8) rfl)
       have HKL2 : Aside0 (ks2.length ≤ j + 1) := ⟨by rw [HL2.out]; omega⟩
       clear d1 d2 hv8 hb8 hg8 hHeld hHeld2 hHeld5 hb3 HB3 HBD3 HV13 HV23 C1 C2 HV1d HV2d B1d B2d HBD hB1 hs3 HS3 HNd hkl
       go_wp2
       go_roundg gk
       case measure => omega
       case rel => exact ⟨j + 1, _, ks2, by omega, by first | rfl | (simp; done) | (simp; unfold wrap64; omega), D1, D2, HW6, HV5, HV6, HKL2, HE⟩
end Go.Proofs.YthgfdnffnbclpaaGreatDoor.PAll
