import Derived.Test.YthgfdnffnbclpaaGreatDoorSQC22
import Derived.Test.YthgfdnffnbclpaaGreatDoorSQC16
import Derived.Test.YthgfdnffnbclpaaGreatDoorSQC13
import Derived.Deep.CutBlock
set_option linter.unusedVariables false
set_option linter.unusedSimpArgs false
namespace Go.Proofs.YthgfdnffnbclpaaGreatDoor.PAll
open Go.RowKit Go.Proofs.YthgfdnffnbclpaaGreatDoorW.PrintWords Go.Proofs.YthgfdnffnbclpaaGreatDoorW.PrintLast Go.Proofs.YthgfdnffnbclpaaGreatDoorW.PrintMore
theorem zcB {α : Type} {W : World} {b n : Nat} {t : TypeId} {cs : List Value} (x : α) (h : W.heap[b]? = some (.cells cs.toArray t (0, 0))) (hl : cs.length = n) : ReadsRow (fun p c => p = x ∧ c = cs) n W (some ⟨b, 0, none⟩) 1 [x] :=
 ⟨rfl, by omega, fun _ => ⟨_, rfl, fun j p hj => by
  cases j with
  | zero =>
   refine ⟨cs, hl, ⟨(Option.some.inj hj).symm, rfl⟩, fun i u hu => ?_⟩
   rw [Nat.zero_mul, Nat.zero_add, zaI]
   refine (zad h i).trans ?_
   simpa using hu
  | succ j => simp at hj⟩⟩
theorem sz49 : k49.sz = 5 := rfl
theorem szRows : (Kd.slice 89 (Kd.slice 87 k64)).sz = 1 := rfl
theorem zj6 {α : Type} {d : Kd α} {e t base k : Nat} {ok : Nat → Prop} {a b : World} {v : Value} {xs : List α} {cs : Array Value} (hx : a.heap[k]? = some (.cells cs t (0, 0))) (h : d.R e a base ok v xs ∧ a.grownBy b v.ownBlock) (ht : e ≠ t) : b.heap[k]? = some (.cells cs t (0, 0)) :=
 zax hx h.2 (Kd.R_ne h.1 hx ht)
theorem zk6 {a b : World} {v : Value} {xs : List S49} {base : Nat} (hg : a.grownBy b v.ownBlock) (h : k49.R 72 a base (fun _ => True) v xs) : ∀ (k : Nat) (cs : Array Value), a.heap[k]? = some (.cells cs 41 (0, 0)) → b.heap[k]? = some (.cells cs 41 (0, 0)) := fun k cs hx => zj6 hx ⟨h, hg⟩ (by decide)
theorem new2 (w : World) (a : Obj) (cs : Array Value) (t : TypeId) : ((w.alloc a).alloc (Obj.cells cs t)).heap[w.heap.size + 1]? = some (.cells cs t (0, 0)) := by
 have s1 : (w.alloc a).heap.size = w.heap.size + 1 := Array.size_push _
 rw [← s1]
 exact Go.Deep.blk_alloc_new _ _
theorem dal {B : Nat} {a w : World} {o : Obj} (h : Below B a (w.drew.alloc o)) : Below B a ((w.alloc o).drew) := h
theorem newd (w : World) (cs : Array Value) (t : TypeId) : ((w.alloc (Obj.cells cs t)).drew).heap[w.heap.size]? = some (.cells cs t (0, 0)) := Go.Deep.blk_alloc_new w _
theorem zhw (w : World) (a : Obj) (cs : Array Value) (t : TypeId) : (((w.alloc a).alloc (Obj.cells cs t)).drew).heap[w.heap.size + 1]? = some (.cells cs t (0, 0)) := new2 w a cs t
theorem zhJ (w : World) (b : Obj) (cs : Array Value) (t : TypeId) : (((w.alloc (Obj.cells cs t)).alloc b).drew).heap[w.heap.size]? = some (.cells cs t (0, 0)) := zai (Go.Deep.blk_alloc_new w _) b
theorem zko {a b : World} {v u : Value} {xs : List S49} {d : Data} {base bs : Nat} (hg : a.grownBy b u.ownBlock) (h : k49.R 72 a base (fun _ => True) v xs) (hd : (Kd.slice 89 (Kd.slice 87 k64)).R 41 a bs (fun _ => True) u d) : k49.R 72 b base (fun _ => True) v xs := Kd.R_over' h (Kd.R_typed hd) (by decide) hg
set_option maxHeartbeats 4000000 in
set_option maxRecDepth 100000 in
theorem zgs (k : Nat) (A0 : Option Addr) (c0 : Nat) (s : List S49) (A1 : Option Addr) (c1 : Nat) (d : Data) (nm : ByteArray) (A3 : Option Addr) (c3 : Nat) (defs : List S109) (A4 : Option Addr) (c4 : Nat) (keys : List (List ByteArray)) (A5 : Option Addr) (c5 : Nat) (refs : List S105) (v : Bool) (w : World)
  (hS : Kd.C k49 w A0 s.length s) (hc0 : s.length ≤ c0) (hD : Kd.C (Kd.slice 89 (Kd.slice 87 k64)) w A1 d.length d) (hc1 : d.length ≤ c1)
  (h3 : Kd.C k109 w A3 defs.length defs) (hc3 : defs.length ≤ c3) (h4 : Kd.C (Kd.slice 9 Kd.string) w A4 keys.length keys) (hc4 : keys.length ≤ c4) (h5 : Kd.C k105 w A5 refs.length refs) (hc5 : refs.length ≤ c5)
  (hwd : zcr d) (hv : zb6 k s d = some v) (hsd : v = true → zaJ d ∧ zbw s ∧ ∀ t ∈ s, t.f1.length ≤ 8) (hL : LaidL w)
  (hb3 : defs.length ≤ 2000000) (hz3 : ∀ x ∈ defs, x.f0.size ≤ 9223372036854775807) (hb4 : ∀ l ∈ keys, l.length ≤ 2000000)
  (hb5 : ∀ r ∈ refs, r.f0.length ≤ 2000000 ∧ r.f2.length ≤ 2000000 ∧ (∀ x ∈ r.f0, x.size ≤ 9223372036854775807) ∧ (∀ x ∈ r.f2, x.size ≤ 9223372036854775807)) :
  Calls Tryz.prog 18 #[.slice A0 s.length c0, .slice A1 d.length c1, .string nm, .slice A3 defs.length c3, .slice A4 keys.length c4, .slice A5 refs.length c5] w fun e w' => ∃ v0 v1 : Value, e = .returned (.tuple #[v0, v1, .int .i64 (createP v s d nm defs keys refs).2.2]) ∧ k49.R 72 w' w.heap.size (fun _ => True) v0 (createP v s d nm defs keys refs).1 ∧ (Kd.slice 89 (Kd.slice 87 k64)).R 41 w' w.heap.size (fun _ => True) v1 (createP v s d nm defs keys refs).2.1 ∧ Below w.heap.size w w' := by
 have HV := Aside0.mk (zbb k A0 c0 s A1 c1 d v w hS hc0 hD hc1 hwd hL hv)
 have HF : Aside0 (∀ W, Below w.heap.size w W → Calls Tryz.prog 33 #[.slice A0 s.length c0, .string nm] W fun e w' => e = .returned (.int .i64 (findP nm 0 s)) ∧ Below W.heap.size W w') := ⟨fun W hW => scheme_find.calls A0 c0 s nm _ W (Kd.C_below hS hW) hc0 rfl⟩
 have HN : Aside0 (∀ W, Below w.heap.size w W → Calls Tryz.prog 52 #[.string nm] W fun e w' => e = .returned (.bool (nmB nm)) ∧ Below W.heap.size W w') := ⟨fun W hW => zbP nm W (LaidL.below ⟨hL⟩ hW)⟩
 have H53 : Aside0 (∀ W, Below w.heap.size w W → Calls Tryz.prog 53 #[.slice A3 defs.length c3, .func (.func 54) #[] #[]] W fun e w' => e = .returned (.bool (defs.any (fun x => !defB x))) ∧ Below W.heap.size W w') := ⟨fun W hW => zi0 A3 c3 defs _ W (Kd.C_below h3 hW) hc3 (fun x _ W2 hW2 => zgY x W2 (LaidL.below ⟨hL⟩ (below_step hW hW2)))⟩
 have H56 : Aside0 (∀ W, Below w.heap.size w W → Calls Tryz.prog 56 #[.slice A4 keys.length c4, .func (.func 57) #[] #[]] W fun e w' => e = .returned (.bool (keys.any (fun l => !namesB l))) ∧ Below W.heap.size W w') := ⟨fun W hW => ziZ A4 c4 keys _ W (Kd.C_below h4 hW) hc4 (fun x _ A c W2 hW2 hC hc => ze3 A c x W2 hC hc (LaidL.below ⟨hL⟩ (below_step hW hW2)))⟩
 have H59 : Aside0 (∀ W, Below w.heap.size w W → Calls Tryz.prog 59 #[.slice A5 refs.length c5, .func (.func 60) #[] #[]] W fun e w' => e = .returned (.bool (refs.any (fun r => !zea r))) ∧ Below W.heap.size W w') := ⟨fun W hW => zi9 A5 c5 refs _ W (Kd.C_below h5 hW) hc5 (fun x _ A c A2 c2 W2 hW2 hC hc hC2 hc2 => zgD A c A2 c2 x W2 hC hc hC2 hc2 (LaidL.below ⟨hL⟩ (below_step hW hW2)))⟩
 have H61 : Aside0 (∀ W, Below w.heap.size w W → Calls Tryz.prog 61 #[.slice A3 defs.length c3, .func (.func 62) #[] #[]] W fun e w' => ∃ v0_ : Value, e = .returned (v0_) ∧ k78.R 83 w' W.heap.size (fun _ => True) v0_ (defs.map madeC) ∧ Below W.heap.size W w') := ⟨fun W hW => zfO A3 c3 defs W (Kd.C_below h3 hW) hc3 hb3⟩
 have H65 : Aside0 (∀ W, Below w.heap.size w W → Calls Tryz.prog 65 #[.slice A3 defs.length c3, .func (.func 66) #[] #[]] W fun e w' => ∃ v0_ : Value, e = .returned (v0_) ∧ Kd.string.R 9 w' W.heap.size (fun _ => True) v0_ (defs.map fun x => x.f0) ∧ Below W.heap.size W w') := ⟨fun W hW => ze8 A3 c3 defs W (Kd.C_below h3 hW) hc3 hb3⟩
 have H64 : Aside0 (∀ (A : Option Addr) (c : Nat) (W : World), (defs.map fun x => x.f0).length ≤ c → Kd.C Kd.string W A (defs.map fun x => x.f0).length (defs.map fun x => x.f0) → Calls Tryz.prog 64 #[.slice A (defs.map fun x => x.f0).length c] W fun e w' => e = .returned (.bool (distP [] (defs.map fun x => x.f0))) ∧ Below W.heap.size W w') := ⟨fun A c W hc hC => scheme_distinct_string.calls A c _ _ W hC hc (by unfold scheme_distinct_string.f; rw [if_pos (List.all_eq_true.2 (fun x hx => decide_eq_true (by obtain ⟨y, hy, rfl⟩ := List.mem_map.1 hx; exact hz3 y hy)))])⟩
 have HSD := Aside0.mk hsd
 have HS := Aside0.mk hS
 have HDT := Aside0.mk hD
 have HK4 := Aside0.mk h4
 have HR5 := Aside0.mk h5
 have HB4 := Aside0.mk hb4
 have HB5 := Aside0.mk hb5
 clear hS hD h3 h4 h5 hwd hv hsd hL hz3 hb4 hb5
 unfold createP
 have HE0 : Aside0 (err0 v s nm defs keys refs = 0 → v = true ∧ s.length < 16 ∧ defs.length ≤ 8 ∧ keys.length ≤ 4 ∧ refs.length ≤ 4) := ⟨fun h => by obtain ⟨q1, _, _, _, _, _, q2, q3, q4, q5, _⟩ := zhT h; exact ⟨q1, q2, q3, q4, q5⟩⟩
 have HEQ : Aside0 (err0 v s nm defs keys refs = askE (askE (askE (askE 0 ((((!v || !nmB nm) || defs.any (fun x => !defB x)) || keys.any (fun l => !namesB l)) || refs.any (fun r => !zea r)) 1) (decide (0 ≤ findP nm 0 s)) 70) (((decide ((16 : Int) ≤ (s.length : Int)) || decide ((8 : Int) < (defs.length : Int))) || decide ((4 : Int) < (keys.length : Int))) || decide ((4 : Int) < (refs.length : Int))) 72) (!distP [] (defs.map fun x => x.f0)) 70) := ⟨by
  unfold err0 zbF bigP
  have e1 : decide ((16 : Int) ≤ (s.length : Int)) = decide (16 ≤ s.length) := by congr 1; simp; omega
  have e2 : decide ((8 : Int) < (defs.length : Int)) = decide (8 < defs.length) := by congr 1; simp; omega
  have e3 : decide ((4 : Int) < (keys.length : Int)) = decide (4 < keys.length) := by congr 1; simp; omega
  have e4 : decide ((4 : Int) < (refs.length : Int)) = decide (4 < refs.length) := by congr 1; simp; omega
  rw [e1, e2, e3, e4]
  simp only [Bool.or_assoc]⟩
 generalize err0 v s nm defs keys refs = E at *
 generalize hKF : zbM E (defs.map madeC) keys [] = KF at *
 generalize hRF : zb3 KF.2 s (defs.map madeC) refs [] = RF at *
 have HP1 : Aside0 (RF.2 ≠ 0 → (if RF.2 = 0 then (s ++ [(⟨nm, defs.map madeC, KF.1, RF.1, []⟩ : S49)], d ++ [[]], 0) else ([], [], RF.2) : List S49 × Data × Int) = ([], [], RF.2)) := ⟨fun h => if_neg h⟩
 have HP2 : Aside0 (RF.2 = 0 → (if RF.2 = 0 then (s ++ [(⟨nm, defs.map madeC, KF.1, RF.1, []⟩ : S49)], d ++ [[]], 0) else ([], [], RF.2) : List S49 × Data × Int) = (s ++ [⟨nm, defs.map madeC, KF.1, RF.1, []⟩], d ++ [[]], 0)) := ⟨fun h => if_pos h⟩
 generalize (if RF.2 = 0 then (s ++ [(⟨nm, defs.map madeC, KF.1, RF.1, []⟩ : S49)], d ++ [[]], 0) else ([], [], RF.2) : List S49 × Data × Int) = PR at *
 have HKF := Aside0.mk hKF
 have HRF := Aside0.mk hRF
 clear hKF hRF
 generalize findP nm 0 s = fp at *
 generalize nmB nm = b2 at *
 generalize defs.any (fun x => !defB x) = b3 at *
 generalize keys.any (fun l => !namesB l) = b4 at *
 generalize refs.any (fun r => !zea r) = b5 at *
 have HLEN3 : Aside0 ((defs.map fun x => x.f0).length = defs.length) := ⟨List.length_map _⟩
 generalize (defs.map fun x => x.f0) = nms at *
 have HCL : Aside0 ((defs.map madeC).length = defs.length) := ⟨List.length_map _⟩
 generalize defs.map madeC = cols at *
 generalize distP [] nms = b6 at *
 go_enter Tryz.func18, Tryz.ntmps18
 go_upto_region 1 with fail
 go_cut [15] (fun s15 wx => s15 = .bool (!v || !b2) ∧ Aside0 (Below w.heap.size w wx))
 case first =>
  cases v
  all_goals go_wp2_with (first | (go_at_call 29; refine HV.out.mono ?_; rintro e w1 ⟨rfl, hb1⟩) | (go_at_call 52; refine (HN.out _ hb1).mono ?_; rintro e w2 ⟨rfl, hb2⟩))
  all_goals go_meet
  ·exact ⟨rfl, ⟨hb1⟩⟩
  ·exact ⟨rfl, ⟨below_step hb1 hb2⟩⟩
 case rest =>
 obtain ⟨rfl, HW1⟩ := hcut
 generalize (!v || !b2) = x1 at *
 go_upto_region 2 with fail
 go_cut [15] (fun s15 wx => s15 = .bool (x1 || b3) ∧ Aside0 (Below w.heap.size w wx))
 case first =>
  cases x1
  all_goals go_wp2_with (go_at_call 53; refine (H53.out _ HW1.out).mono ?_; rintro e w2 ⟨rfl, hb2⟩)
  all_goals go_meet
  ·exact ⟨rfl, ⟨below_step HW1.out hb2⟩⟩
  ·exact ⟨rfl, HW1⟩
 case rest =>
 clear HW1
 obtain ⟨rfl, HW1⟩ := hcut
 generalize (x1 || b3) = x2 at *
 go_upto_region 3 with fail
 go_cut [15] (fun s15 wx => s15 = .bool (x2 || b4) ∧ Aside0 (Below w.heap.size w wx))
 case first =>
  cases x2
  all_goals go_wp2_with (go_at_call 56; refine (H56.out _ HW1.out).mono ?_; rintro e w2 ⟨rfl, hb2⟩)
  all_goals go_meet
  ·exact ⟨rfl, ⟨below_step HW1.out hb2⟩⟩
  ·exact ⟨rfl, HW1⟩
 case rest =>
 clear HW1
 obtain ⟨rfl, HW1⟩ := hcut
 generalize (x2 || b4) = x3 at *
 go_upto_region 4 with fail
 go_cut [15] (fun s15 wx => s15 = .bool (x3 || b5) ∧ Aside0 (Below w.heap.size w wx))
 case first =>
  cases x3
  all_goals go_wp2_with (go_at_call 59; refine (H59.out _ HW1.out).mono ?_; rintro e w2 ⟨rfl, hb2⟩)
  all_goals go_meet
  ·exact ⟨rfl, ⟨below_step HW1.out hb2⟩⟩
  ·exact ⟨rfl, HW1⟩
 case rest =>
 clear HW1
 obtain ⟨rfl, HW1⟩ := hcut
 generalize (x3 || b5) = x4 at *
 clear H53 H56 H59 HN HV
 go_upto_region 8 with (first
  | (go_at_call 61; refine (H61.out _ HW1.out).mono ?_; rintro e w6 ⟨v6, rfl, hv6, hb6⟩; obtain ⟨A6, c6, e6⟩ := Kd.R_slice hv6; subst e6; have HV6 := Aside0.mk (Kd.R_lower hv6 HW1.out.size); have HW6 := Aside0.mk (below_step HW1.out hb6); have HBA := Aside0.mk (Go.Deep.blk_alloc_new w6 (Obj.cells #[.slice A0 s.length c0, .string nm, .slice A6 cols.length c6, .slice none 0 0, .slice none 0 0, .slice none 0 0, .int .i64 0] 118)); have HBB : Aside0 (w6.grownBy (w6.alloc (Obj.cells #[.slice A0 s.length c0, .string nm, .slice A6 cols.length c6, .slice none 0 0, .slice none 0 0, .slice none 0 0, .int .i64 0] 118)) (some w6.heap.size)) := ⟨zao ((Below.refl _ _).alloc (Nat.le_refl _) _) _⟩; clear hv6 hb6)
  | (go_at_call 63; refine (zaP w6.heap.size _ _ _ _ _ _ _ _ _ _ HBA.out).mono ?_; rintro e w7 ⟨rfl, hb7, hg7⟩; have HBA := Aside0.mk hb7; have HBB := Aside0.mk (zae HBB.out hg7); have HBL := Aside0.mk (HW6.out.trans (zav HBB.out HW6.out.size HW6.out.size)); clear hb7 hg7)
  | (go_at_call 33; refine (HF.out _ HBL.out).mono ?_; rintro e w8 ⟨rfl, hb8⟩; have HBB := Aside0.mk (zae HBB.out (zao hb8 _)); have HBA := Aside0.mk ((hb8.block _ (zah HBA.out)).trans HBA.out); clear hb8))
 generalize askE (askE 0 x4 1) (decide (0 ≤ fp)) 70 = E2 at *
 clear HF HBL HW1 H61
 go_cut [] (fun wx => Aside0 (wx.heap[w6.heap.size]? = some (.cells #[.slice A0 s.length c0, .string nm, .slice A6 cols.length c6, .slice none 0 0, .slice none 0 0, .slice none 0 0, .int .i64 (askE E2 (((decide ((16 : Int) ≤ (s.length : Int)) || decide ((8 : Int) < (defs.length : Int))) || decide ((4 : Int) < (keys.length : Int))) || decide ((4 : Int) < (refs.length : Int))) 72)] 118 (0, 0))) ∧ Aside0 (w6.grownBy wx (some w6.heap.size)))
 case first =>
  cases q1 : decide ((16 : Int) ≤ (s.length : Int)) <;> cases q2 : decide ((8 : Int) < (defs.length : Int)) <;> cases q3 : decide ((4 : Int) < (keys.length : Int)) <;> cases q4 : decide ((4 : Int) < (refs.length : Int))
  all_goals
   go_wp2_with (go_at_call 63; refine (zaP w6.heap.size _ _ _ _ _ _ _ _ _ _ HBA.out).mono ?_; rintro e w7 ⟨rfl, hb7, hg7⟩; have HB7 := Aside0.mk hb7; have HG7 := Aside0.mk (zae HBB.out hg7); clear hb7 hg7)
   go_meet
   rw [q1, q2, q3, q4]
   exact ⟨HB7, HG7⟩
 case rest =>
 clear HBA HBB
 obtain ⟨HBA, HBB⟩ := hcut
 generalize askE E2 (((decide ((16 : Int) ≤ (s.length : Int)) || decide ((8 : Int) < (defs.length : Int))) || decide ((4 : Int) < (keys.length : Int))) || decide ((4 : Int) < (refs.length : Int))) 72 = E3 at *
 have HBL := Aside0.mk (HW6.out.trans (zav HBB.out HW6.out.size HW6.out.size))
 go_upto_region 10 with (first
  | (go_at_call 65; refine (H65.out _ HBL.out).mono ?_; rintro e w7 ⟨v7, rfl, hv7, hb7⟩; obtain ⟨A7, c7, e7⟩ := Kd.R_slice hv7; subst e7; have HV7 := Aside0.mk (Kd.R_reads' hv7); have HBB := Aside0.mk (zae HBB.out (zao hb7 _)); have HBA := Aside0.mk ((hb7.block _ (zah HBA.out)).trans HBA.out); clear hv7 hb7)
  | (go_at_call 64; refine (H64.out _ _ _ HV7.out.2.1 HV7.out.2.2).mono ?_; rintro e w8 ⟨rfl, hb8⟩; have HBB := Aside0.mk (zae HBB.out (zao hb8 _)); have HBA := Aside0.mk ((hb8.block _ (zah HBA.out)).trans HBA.out); clear hb8)
  | (go_at_call 63; refine (zaP w6.heap.size _ _ _ _ _ _ _ _ _ _ HBA.out).mono ?_; rintro e w9 ⟨rfl, hb9, hg9⟩; have HBA := Aside0.mk hb9; have HBB := Aside0.mk (zae HBB.out hg9); have HBL := Aside0.mk (HW6.out.trans (zav HBB.out HW6.out.size HW6.out.size)); clear hb9 hg9))
 rw [← HEQ.out] at HBA
 have HG : Aside0 (w.heap.size ≤ w6.heap.size) := ⟨HW6.out.size⟩
 have HBD : Aside0 (Bd w6.heap.size w.heap.size (.slice A0 s.length c0) nm cols [] [] E w9) := ⟨⟨HG.out, _, _, _, HBA.out, Kd.R_below HV6.out (zav HBB.out (Nat.le_refl _) (Nat.le_refl _)), Kd.R_nil _ _ _ _ _, Kd.R_nil _ _ _ _ _⟩⟩
 clear HEQ HBA HBB HW6 HV6 HV7 H64 H65
 generalize w6.heap.size = g at *
 generalize w9 = wl at *
 go_upto_block 0 with fail
 go_cut [] (fun wx => Aside0 (Bd g w.heap.size (.slice A0 s.length c0) nm cols KF.1 [] KF.2 wx) ∧ Aside0 (Below w.heap.size w wx) ∧ Aside0 (KF.2 = 0 → E = 0))
 case first =>
  go_wp2_with fail
  go_loopg [17] keys.length (fun gk v17 wx => ∃ (i : Nat) (ks : List (List Int)) (er : Int), i + gk = keys.length ∧ v17 = .int .i64 i ∧ Aside0 (Bd g w.heap.size (.slice A0 s.length c0) nm cols ks [] er wx) ∧ Aside0 (Below w.heap.size w wx) ∧ Aside0 (ks.length ≤ i) ∧ Aside0 (zbM er cols (keys.drop i) ks = KF) ∧ Aside0 (er = 0 → E = 0))
  case atStart => exact ⟨0, [], E, by omega, rfl, HBD, HBL, ⟨Nat.le_refl _⟩, ⟨by simpa using HKF.out⟩, ⟨id⟩⟩
  case round =>
   clear HBD HBL HKF
   obtain ⟨i, ks, er, hi, rfl, HBD, HBL, HKL, HKE, HER⟩ := hrel
   obtain ⟨hbg, v1, v2, v3, hb, h1, h2, h3⟩ := HBD.out
   obtain ⟨_, _, _, _, _, _, z6, _⟩ := zaU hb
   clear hbg hb h1 h2 h3
   cases gk with
   | zero =>
    have hii : ¬ (i : Int) < (keys.length : Int) := by omega
    have HDR : Aside0 (zbM er cols [] ks = KF) := ⟨by have := HKE.out; rwa [List.drop_eq_nil_of_le (by omega)] at this⟩
    go_wp2_with fail
    go_meet
    have h9 := HDR.out
    rw [ziO] at h9
    subst h9
    exact ⟨HBD, HBL, HER⟩
   | succ gk =>
    have hlt : i < keys.length := by omega
    have hii : (i : Int) < (keys.length : Int) := by omega
    by_cases her : er = 0
    case neg =>
     have d1 : (er == 0) = false := beq_eq_false_iff_ne.mpr her
     clear her
     go_wp2_with fail
     go_meet
     have h9 := HKE.out
     unfold zbM at h9
     rw [if_neg (by simpa using d1)] at h9
     subst h9
     exact ⟨HBD, HBL, HER⟩
    case pos =>
     subst her
     have d1 : ((0 : Int) == 0) = true := rfl
     have hi0 : (0 : Int) ≤ (i : Int) := by omega
     have hrd : zdr keys (i : Int) = keys[i] := by simp [zdr, List.getD, hlt]
     obtain ⟨ad, Ak, ck, hA, hx0, hl0, hC0⟩ := zj0 (Kd.C_below HK4.out HBL.out) (i : Int) hi0 hii
     subst hA
     rw [hrd] at hx0 hl0 hC0
     rw [Int.toNat_natCast] at hx0
     obtain ⟨_, _, e3, e5, e4⟩ := HE0.out (HER.out rfl)
     have HKS : Aside0 (zbM (keyS cols ks keys[i]).2 cols (keys.drop (i + 1)) (keyS cols ks keys[i]).1 = KF) := ⟨by rw [← zhR, ← HKE.out, ← List.drop_eq_getElem_cons hlt]⟩
     have HLE := Aside0.mk (zkK cols ks keys[i])
     have HKW := Aside0.mk (zj7 g w.heap.size _ nm cols ks [] Ak ck keys[i] wr HBD.out hC0 hl0 (HB4.out _ (List.getElem_mem hlt)) (by rw [HCL.out]; exact e3) (by have := HKL.out; omega))
     have hk4 : keys.length ≤ 4 := e5
     have HE9 := Aside0.mk (HER.out rfl)
     generalize keyS cols ks keys[i] = kn at *
     generalize keys[i] = l at *
     clear hrd hC0 hl0 e3 e4 e5 HKE HER HBD
     go_wp2_with (go_at_call 67; refine HKW.out.mono ?_; rintro e w7 ⟨rfl, hB7, hb7⟩; have HB7 := Aside0.mk hB7; have HL7 := Aside0.mk (HBL.out.trans hb7); clear hB7 hb7)
     have HLE2 : Aside0 (kn.1.length ≤ i + 1) := ⟨by have := HLE.out; have := HKL.out; omega⟩
     go_roundg gk
     case measure => omega
     case rel => exact ⟨i + 1, kn.1, kn.2, by omega, by first | rfl | (simp; done) | (simp; unfold wrap64; omega), HB7, HL7, HLE2, HKS, ⟨fun _ => HE9.out⟩⟩
 case rest =>
 clear HBD HBL
 obtain ⟨HBD, HBL, HE1⟩ := hcut
 generalize wc = wl at *
 go_upto_block 2 with fail
 go_cut [] (fun wx => Aside0 (Bd g w.heap.size (.slice A0 s.length c0) nm cols KF.1 RF.1 RF.2 wx) ∧ Aside0 (Below w.heap.size w wx) ∧ Aside0 (RF.2 = 0 → E = 0))
 case first =>
  go_wp2_with fail
  go_loopg [18] refs.length (fun gk v18 wx => ∃ (i : Nat) (rs : List S75) (er : Int), i + gk = refs.length ∧ v18 = .int .i64 i ∧ Aside0 (Bd g w.heap.size (.slice A0 s.length c0) nm cols KF.1 rs er wx) ∧ Aside0 (Below w.heap.size w wx) ∧ Aside0 (rs.length ≤ i) ∧ Aside0 (zb3 er s cols (refs.drop i) rs = RF) ∧ Aside0 (er = 0 → E = 0))
  case atStart => exact ⟨0, [], KF.2, by omega, rfl, HBD, HBL, ⟨Nat.le_refl _⟩, ⟨by simpa using HRF.out⟩, HE1⟩
  case round =>
   clear HBD HBL HRF HE1
   obtain ⟨i, rs, er, hi, rfl, HBD, HBL, HKL, HKE, HER⟩ := hrel
   obtain ⟨hbg, v1, v2, v3, hb, h1, h2, h3⟩ := HBD.out
   obtain ⟨_, _, _, _, _, _, z6, _⟩ := zaU hb
   clear hbg hb h1 h2 h3
   cases gk with
   | zero =>
    have hii : ¬ (i : Int) < (refs.length : Int) := by omega
    have HDR : Aside0 (zb3 er s cols [] rs = RF) := ⟨by have := HKE.out; rwa [List.drop_eq_nil_of_le (by omega)] at this⟩
    go_wp2_with fail
    go_meet
    have h9 := HDR.out
    rw [zjo] at h9
    subst h9
    exact ⟨HBD, HBL, HER⟩
   | succ gk =>
    have hlt : i < refs.length := by omega
    have hii : (i : Int) < (refs.length : Int) := by omega
    by_cases her : er = 0
    case neg =>
     have d1 : (er == 0) = false := beq_eq_false_iff_ne.mpr her
     clear her
     go_wp2_with fail
     go_meet
     have h9 := HKE.out
     unfold zb3 at h9
     rw [if_neg (by simpa using d1)] at h9
     subst h9
     exact ⟨HBD, HBL, HER⟩
    case pos =>
     subst her
     have d1 : ((0 : Int) == 0) = true := rfl
     have hi0 : (0 : Int) ≤ (i : Int) := by omega
     have hrd : zaW refs (i : Int) = refs[i] := by simp [zaW, List.getD, hlt]
     obtain ⟨ad, Ak, ck, Am, cm, hA, hx0, hx1, hx2, hl0, hC0, hl2, hC2⟩ := zd1 (Kd.C_below HR5.out HBL.out) (i : Int) hi0 hii
     obtain ⟨ad', Ak', ck', Am', cm', hA', hy0, hy1, hy2, _, hD0, _, hD2⟩ := zd1 HR5.out (i : Int) hi0 hii
     rw [hA] at hA'
     cases hA'
     have t0 := (HBL.out.cell (World.block_lt_of_cell? w _ hy0)).trans hy0
     have t2 := (HBL.out.cell (World.block_lt_of_cell? w _ hy2)).trans hy2
     rw [hx0] at t0
     rw [hx2] at t2
     cases t0
     cases t2
     subst hA
     rw [hrd] at hx0 hx1 hx2 hl0 hD0 hl2 hD2
     rw [Int.toNat_natCast] at hx0 hx1 hx2
     obtain ⟨e2, e3, e4, e5, e6⟩ := HE0.out (HER.out rfl)
     have HKS : Aside0 (zb3 (refS s cols rs refs[i]).2 s cols (refs.drop (i + 1)) (refS s cols rs refs[i]).1 = RF) := ⟨by rw [← zhY, ← HKE.out, ← List.drop_eq_getElem_cons hlt]⟩
     have HLE := Aside0.mk (zkA s cols rs refs[i])
     have b9 := HB5.out _ (List.getElem_mem hlt)
     have HKW := Aside0.mk (zjz w g A0 c0 s nm cols KF.1 rs Ak ck Am cm refs[i] wr HS.out hc0 hD0 hl0 hD2 hl2 HBD.out HBL.out b9.1 b9.2.1 b9.2.2.1 b9.2.2.2 (by rw [HCL.out]; exact e4) (HSD.out e2).2.2 (by have := HKL.out; omega) (by omega))
     have hr4 : refs.length ≤ 4 := e6
     have HE9 := Aside0.mk (HER.out rfl)
     generalize refS s cols rs refs[i] = kn at *
     generalize refs[i] = l at *
     clear hrd hC0 hl0 hC2 hl2 hD0 hD2 hy0 hy1 hy2 e2 e3 e4 e5 e6 b9 HKE HER HBD
     go_wp2_with (go_at_call 68; refine HKW.out.mono ?_; rintro e w7 ⟨rfl, hB7, hb7⟩; have HB7 := Aside0.mk hB7; have HL7 := Aside0.mk (HBL.out.trans hb7); clear hB7 hb7)
     have HLE2 : Aside0 (kn.1.length ≤ i + 1) := ⟨by have := HLE.out; have := HKL.out; omega⟩
     go_roundg gk
     case measure => omega
     case rel => exact ⟨i + 1, kn.1, kn.2, by omega, by first | rfl | (simp; done) | (simp; unfold wrap64; omega), HB7, HL7, HLE2, HKS, ⟨fun _ => HE9.out⟩⟩
 case rest =>
 clear HBD HBL HE1 HRF HKF
 obtain ⟨HBD, HBL, HE1⟩ := hcut
 obtain ⟨hbg, v1, v2, v3, hb, h1, h2, h3⟩ := HBD.out
 obtain ⟨B1, b1, e1⟩ := Kd.R_slice h1
 obtain ⟨B2, b2, e2⟩ := Kd.R_slice h2
 obtain ⟨B3, b3, e3⟩ := Kd.R_slice h3
 subst e1 e2 e3
 obtain ⟨z0, z1, z2, z3, z4, z5, z6, _⟩ := zaU hb
 by_cases her : RF.2 = 0
 case neg =>
  have HNE := Aside0.mk her
  have d1 : (RF.2 == 0) = false := beq_eq_false_iff_ne.mpr her
  have d2 : (RF.2 != 0) = true := by rw [bne, d1]; rfl
  clear her
  clear hbg hb h1 h2 h3
  go_wp2
  go_quiet (fail)
  go_wp2
  go_ret3
  have e9 := HP1.out HNE.out
  rw [e9]
  exact ⟨_, _, rfl, Kd.R_nil _ _ _ _ _, Kd.R_nil _ _ _ _ _, below_step HBL.out (zaa (Below.refl _ _) nq)⟩
 case pos =>
  have HEZ := Aside0.mk her
  have d1 : (RF.2 != 0) = false := by rw [her]; rfl
  have HBK := Aside0.mk hb
  have HBG := Aside0.mk hbg
  have H1 := Aside0.mk h1
  have H2 := Aside0.mk h2
  have H3 := Aside0.mk h3
  clear her hb hbg h1 h2 h3
  go_wp2
  have HB1 := Aside0.mk (zab HBL.out)
  have HX1 := Aside0.mk (Kd.R_drew H1.out)
  have HX2 := Aside0.mk (Kd.R_drew H2.out)
  have HX3 := Aside0.mk (Kd.R_drew H3.out)
  have HC1 := Aside0.mk (zap HBK.out)
  obtain ⟨e2, _, _, _, _⟩ := HE0.out (HE1.out HEZ.out)
  obtain ⟨hsd1, hss1, _⟩ := HSD.out e2
  have HD0 : wc.drew.cell? ⟨g, 1, none⟩ = some (.string nm) ∧ wc.drew.cell? ⟨g, 2, none⟩ = some (.slice B1 cols.length b1) ∧ wc.drew.cell? ⟨g, 3, none⟩ = some (.slice B2 KF.1.length b2) ∧ wc.drew.cell? ⟨g, 4, none⟩ = some (.slice B3 RF.1.length b3) ∧ wc.drew.cell? ⟨g, 5, none⟩ = some (.slice none 0 0) := by
   obtain ⟨_, y1, y2, y3, y4, y5, _⟩ := zaU HC1.out
   exact ⟨y1, y2, y3, y4, y5⟩
  have HSM := Aside0.mk hss1
  have HDM := Aside0.mk hsd1
  have hsl : s.length ≤ 2000000 := hss1.1
  have hdl : d.length ≤ 2000000 := hsd1.1
  clear hss1 hsd1 e2 z0 z1 z2 z3 z4 z5 z6 HBL H1 H2 H3 HBK
  have KB : ∀ W, Below wc.drew.heap.size wc.drew W → (fun W => W.cell? ⟨g, 1, none⟩ = some (.string nm) ∧ W.cell? ⟨g, 2, none⟩ = some (.slice B1 cols.length b1) ∧ W.cell? ⟨g, 3, none⟩ = some (.slice B2 KF.1.length b2) ∧ W.cell? ⟨g, 4, none⟩ = some (.slice B3 RF.1.length b3) ∧ W.cell? ⟨g, 5, none⟩ = some (.slice none 0 0)) W := fun W hW => by
   obtain ⟨_, y1, y2, y3, y4, y5, _⟩ := zaU ((hW.block g (zah HC1.out)).trans HC1.out)
   exact ⟨y1, y2, y3, y4, y5⟩
  have HKB := Aside0.mk KB
  have HC34 : Aside0 (∀ W, Below wc.drew.heap.size wc.drew W → Calls Tryz.prog 34 #[.slice A0 s.length c0] W fun e w' => ∃ v0_ : Value, e = .returned (v0_) ∧ k49.R 72 w' wc.drew.heap.size (fun _ => True) v0_ s ∧ Below W.heap.size W w') := ⟨fun W hW => (zgK A0 c0 s W (Kd.C_below HS.out (below_step HB1.out hW)) hc0 HSM.out).mono fun e w' ⟨v, he, hS, hb⟩ => ⟨v, he, Kd.R_lower (Kd.S_R hS) hW.size, hb⟩⟩
  have HC37 : Aside0 (∀ W, Below wc.drew.heap.size wc.drew W → Calls Tryz.prog 37 #[.slice A1 d.length c1] W fun e w' => ∃ v0_ : Value, e = .returned (v0_) ∧ (Kd.slice 89 (Kd.slice 87 k64)).R 41 w' wc.drew.heap.size (fun _ => True) v0_ d ∧ Below W.heap.size W w') := ⟨fun W hW => (zbn A1 c1 d W (Kd.C_below HDT.out (below_step HB1.out hW)) hc1 HDM.out).mono fun e w' ⟨v, he, hS, hb⟩ => ⟨v, he, Kd.R_lower (Kd.S_R hS) hW.size, hb⟩⟩
  have HM : Aside0 (∀ W, Below wc.drew.heap.size wc.drew W → k49.M W w.heap.size (fun k => k < wc.drew.heap.size) ⟨nm, cols, KF.1, RF.1, []⟩ [.string nm, .slice B1 cols.length b1, .slice B2 KF.1.length b2, .slice B3 RF.1.length b3, .slice none 0 0]) := ⟨fun W hW => zgw W _ _ ⟨nm, cols, KF.1, RF.1, []⟩ (Kd.R_below (Kd.R_mono (Kd.R_bound HX1.out) (fun k hk => hk.2.2.1)) hW) (Kd.R_below (Kd.R_mono (Kd.R_bound HX2.out) (fun k hk => hk.2.2.1)) hW) (Kd.R_below (Kd.R_mono (Kd.R_bound HX3.out) (fun k hk => hk.2.2.1)) hW) (Kd.R_nil _ _ _ _ _)⟩
  clear KB HC1 HX1 HX2 HX3
  go_region_held3 (fun W => W.cell? ⟨g, 1, none⟩ = some (.string nm) ∧ W.cell? ⟨g, 2, none⟩ = some (.slice B1 cols.length b1) ∧ W.cell? ⟨g, 3, none⟩ = some (.slice B2 KF.1.length b2) ∧ W.cell? ⟨g, 4, none⟩ = some (.slice B3 RF.1.length b3) ∧ W.cell? ⟨g, 5, none⟩ = some (.slice none 0 0)) (exact HKB.out _ (by repeat' (first | with_reducible exact Below.refl _ _ | with_reducible exact HBC124.out | with_reducible exact HBC122.out | with_reducible exact HBC34.out | with_reducible refine zac ?_ _ | with_reducible refine dal ?_))) (first
   | (go_at_call 34; refine (HC34.out _ (by repeat' (first | with_reducible exact Below.refl _ _ | with_reducible exact HBC124.out | with_reducible exact HBC122.out | with_reducible exact HBC34.out | with_reducible refine zac ?_ _ | with_reducible refine dal ?_))).mono ?_; rintro e w34 ⟨v34, rfl, hv34, hb34⟩; obtain ⟨Ax, cx, ex⟩ := Kd.R_slice hv34; subst ex; have HR34 := Aside0.mk hv34; have HB34 := Aside0.mk hb34; have HBC34 := Aside0.mk (below_step (w := wc.drew) (by repeat' (first | with_reducible exact Below.refl _ _ | with_reducible exact HBC124.out | with_reducible exact HBC122.out | with_reducible exact HBC34.out | with_reducible refine zac ?_ _ | with_reducible refine dal ?_)) hb34); clear hv34 hb34)
   | (go_at_call 37; refine (HC37.out _ (by repeat' (first | with_reducible exact Below.refl _ _ | with_reducible exact HBC124.out | with_reducible exact HBC122.out | with_reducible exact HBC34.out | with_reducible refine zac ?_ _ | with_reducible refine dal ?_))).mono ?_; rintro e w124 ⟨v124, rfl, hv124, hb124⟩; obtain ⟨Ay, cy, ey⟩ := Kd.R_slice hv124; subst ey; have HR124 := Aside0.mk hv124; have HB124 := Aside0.mk hb124; have HBC124 := Aside0.mk (below_step (w := wc.drew) (by repeat' (first | with_reducible exact Below.refl _ _ | with_reducible exact HBC124.out | with_reducible exact HBC122.out | with_reducible exact HBC34.out | with_reducible refine zac ?_ _ | with_reducible refine dal ?_)) hb124); clear hv124 hb124)
   | (refine Kd.R_append_rows_step k49 (Rr := fun p c => p = (⟨nm, cols, KF.1, RF.1, []⟩ : S49) ∧ c = [.string nm, .slice B1 cols.length b1, .slice B2 KF.1.length b2, .slice B3 RF.1.length b3, .slice none 0 0]) (w0 := w) w.heap.size (by rfl) (.tmp 118) (.tmp 121) 23 72 (.agg #[(.string ⟨#[]⟩), (.slice none 0 0), (.slice none 0 0), (.slice none 0 0), (.slice none 0 0)]) 112 rfl Tryz.underlying23 zeL rfl (by decide) (by omega) (.slice Ax s.length cx) s [(⟨nm, cols, KF.1, RF.1, []⟩ : S49)] _ 1 1 (fun _ => True) (fun k => k < wc.drew.heap.size) rfl rfl ?aO ?aR ?aK (fun k hk => ⟨trivial, fun he => by have := Kd.R_base HR34.out k he.symm; omega⟩) (fun _ _ => trivial) ?aB ?aS (by omega) ?_; (case aO => (refine Kd.R_lower (base := wc.drew.heap.size) ?_ HB1.out.size; repeat' (first | with_reducible exact HR34.out | with_reducible refine Kd.R_below ?_ (zac (Below.refl _ _) _)))); (case aR => ((with_reducible refine zcB (t := 72) (cs := [.string nm, .slice B1 cols.length b1, .slice B2 KF.1.length b2, .slice B3 RF.1.length b3, .slice none 0 0]) (⟨nm, cols, KF.1, RF.1, []⟩ : S49) ?_ ?_); rotate_left; exact sz49.symm; first | with_reducible exact Go.Deep.blk_alloc_new _ _ | with_reducible exact new2 _ _ _ _ | (with_reducible refine zaB ?_ HB34.out; first | with_reducible exact new2 _ _ _ _ | with_reducible exact newd _ _ _ | with_reducible exact zhw _ _ _ _ | with_reducible exact zhJ _ _ _ _) | (with_reducible refine zai ?_ _; with_reducible refine zaB ?_ HB34.out; first | with_reducible exact newd _ _ _ | with_reducible exact zhw _ _ _ _ | with_reducible exact zhJ _ _ _ _) | (with_reducible refine zai ?_ _; with_reducible exact Go.Deep.blk_alloc_new _ _) | (with_reducible refine zaB ?_ HB34.out; with_reducible exact Go.Deep.blk_alloc_new _ _) | (with_reducible refine zaB ?_ HB34.out; with_reducible refine zai ?_ _; with_reducible exact Go.Deep.blk_alloc_new _ _) | (with_reducible refine zai ?_ _; with_reducible refine zaB ?_ HB34.out; with_reducible exact Go.Deep.blk_alloc_new _ _) | (with_reducible refine zai ?_ _; with_reducible refine zaB ?_ HB34.out; with_reducible refine zai ?_ _; with_reducible exact Go.Deep.blk_alloc_new _ _))); (case aK => (intro p c hpc; obtain ⟨e1, e2⟩ := hpc; rw [e1, e2]; refine HM.out _ ?_; repeat' (first | with_reducible exact Below.refl _ _ | with_reducible exact HBC124.out | with_reducible exact HBC122.out | with_reducible exact HBC34.out | with_reducible refine zac ?_ _ | with_reducible refine dal ?_))); (case aB => (refine HB1.out.trans (Below.mono (B := wc.drew.heap.size) ?_ HB1.out.size); repeat' (first | with_reducible exact Below.refl _ _ | with_reducible exact HBC124.out | with_reducible exact HBC122.out | with_reducible exact HBC34.out | with_reducible refine zac ?_ _ | with_reducible refine dal ?_))); (case aS => (refine Nat.le_trans HB1.out.size (Below.size (B := wc.drew.heap.size) ?_); repeat' (first | with_reducible exact Below.refl _ _ | with_reducible exact HBC124.out | with_reducible exact HBC122.out | with_reducible exact HBC34.out | with_reducible refine zac ?_ _ | with_reducible refine dal ?_))); intro v122 w122 hv122 hb122 hg122 _; obtain ⟨Az, cz, ez⟩ := Kd.R_slice hv122; subst ez; have HR122 := Aside0.mk hv122; have HG122 := Aside0.mk hg122; have HT122 := Aside0.mk (zk6 (base := wc.drew.heap.size) (xs := s) hg122 (by repeat' (first | with_reducible exact HR34.out | with_reducible refine Kd.R_below ?_ (zac (Below.refl _ _) _)))); have HBC122 := Aside0.mk (Below.grown (B := wc.drew.heap.size) (a := wc.drew) (by repeat' (first | with_reducible exact Below.refl _ _ | with_reducible exact HBC124.out | with_reducible exact HBC122.out | with_reducible exact HBC34.out | with_reducible refine zac ?_ _ | with_reducible refine dal ?_)) hg122 (Below.size (B := wc.drew.heap.size) (w := wc.drew) (by repeat' (first | with_reducible exact Below.refl _ _ | with_reducible exact HBC124.out | with_reducible exact HBC122.out | with_reducible exact HBC34.out | with_reducible refine zac ?_ _ | with_reducible refine dal ?_))) (fun k hk => Kd.R_base HR34.out k hk)); clear hv122 hb122 hg122)
   | (refine Kd.R_append_rows_step (Kd.slice 89 (Kd.slice 87 k64)) (Rr := fun p c => p = ([] : Rows) ∧ c = [.slice none 0 0]) (w0 := w) w.heap.size (by rfl) (.tmp 124) (.tmp 125) 25 41 (.slice none 0 0) 24 rfl Tryz.underlying25 (by kernel_rfl) rfl (by decide) (by omega) (.slice Ay d.length cy) d [([] : Rows)] _ 1 1 (fun _ => True) (fun k => False) rfl rfl ?bO ?bR ?bK (fun k hk => hk.elim) (fun _ _ => trivial) ?bB ?bS (by omega) ?_; (case bO => (refine Kd.R_lower (base := wc.drew.heap.size) ?_ HB1.out.size; repeat' (first | with_reducible exact HR124.out | with_reducible refine Kd.R_below ?_ (zac (Below.refl _ _) _)))); (case bR => ((with_reducible refine zcB (t := 41) (cs := [.slice none 0 0]) ([] : Rows) ?_ ?_); rotate_left; exact szRows.symm; repeat' (first | with_reducible exact Go.Deep.blk_alloc_new _ _ | with_reducible exact new2 _ _ _ _ | with_reducible exact newd _ _ _ | with_reducible exact zhw _ _ _ _ | with_reducible exact zhJ _ _ _ _ | with_reducible refine zaB ?_ HB124.out | with_reducible refine HT122.out _ _ ?_ | with_reducible refine zaB ?_ HB34.out | with_reducible refine zai ?_ _))); (case bK => (intro p c hpc; obtain ⟨e1, e2⟩ := hpc; rw [e1, e2]; exact Kd.M_row (Kd.R_nil _ _ _ _ _))); (case bB => (refine HB1.out.trans (Below.mono (B := wc.drew.heap.size) ?_ HB1.out.size); repeat' (first | with_reducible exact Below.refl _ _ | with_reducible exact HBC124.out | with_reducible exact HBC122.out | with_reducible exact HBC34.out | with_reducible refine zac ?_ _ | with_reducible refine dal ?_))); (case bS => (refine Nat.le_trans HB1.out.size (Below.size (B := wc.drew.heap.size) ?_); repeat' (first | with_reducible exact Below.refl _ _ | with_reducible exact HBC124.out | with_reducible exact HBC122.out | with_reducible exact HBC34.out | with_reducible refine zac ?_ _ | with_reducible refine dal ?_))); intro v126 w126 hv126 hb126 hg126 _; have HF1 := Aside0.mk (zko (v := .slice Az (s ++ [(⟨nm, cols, KF.1, RF.1, []⟩ : S49)]).length cz) (u := .slice Ay d.length cy) (base := w.heap.size) (bs := wc.drew.heap.size) (xs := s ++ [(⟨nm, cols, KF.1, RF.1, []⟩ : S49)]) (d := d) hg126 (by repeat' (first | with_reducible exact HR122.out | with_reducible refine Kd.R_below ?_ HB124.out | with_reducible refine Kd.R_below ?_ (zac (Below.refl _ _) _))) (by repeat' (first | with_reducible exact HR124.out | with_reducible refine Kd.R_below ?_ (zac (Below.refl _ _) _)))); have HF2 := Aside0.mk hv126; have HF3 := Aside0.mk hb126; have HBC124 := Aside0.mk (Below.grown (B := wc.drew.heap.size) (a := wc.drew) (by repeat' (first | with_reducible exact Below.refl _ _ | with_reducible exact HBC124.out | with_reducible exact HBC122.out | with_reducible exact HBC34.out | with_reducible refine zac ?_ _ | with_reducible refine dal ?_)) hg126 (Below.size (B := wc.drew.heap.size) (w := wc.drew) (by repeat' (first | with_reducible exact Below.refl _ _ | with_reducible exact HBC124.out | with_reducible exact HBC122.out | with_reducible exact HBC34.out | with_reducible refine zac ?_ _ | with_reducible refine dal ?_))) (fun k hk => Kd.R_base HR124.out k hk)); clear hv126 hb126 hg126))
  all_goals
   go_wp2
   go_ret3
   have e9 := HP2.out HEZ.out
   rw [e9]
   have hf := HF1.out
   rw [show (s ++ [(⟨nm, cols, KF.1, RF.1, []⟩ : S49)]).length = s.length + 1 by simp] at hf
   exact ⟨_, _, rfl, hf, HF2.out, HF3.out⟩
end Go.Proofs.YthgfdnffnbclpaaGreatDoor.PAll
