import Derived.Test.YthgfdnffnbclpaaGreatDoorSQG22
import Derived.Test.YthgfdnffnbclpaaGreatDoorSQG16
import Derived.Test.YthgfdnffnbclpaaGreatDoorSQG13
import Derived.Deep.CutBlock
import Derived.Test.YthgfdnffnbclpaaGreatDoorSQG17
import Derived.Test.YthgfdnffnbclpaaGreatDoorSQG14
import Derived.Test.YthgfdnffnbclpaaGreatDoorSQG19
set_option linter.unusedVariables false
set_option linter.unusedSimpArgs false
namespace Go.Proofs.YthgfdnffnbclpaaGreatDoor.PAll
open Go.RowKit Go.Proofs.YthgfdnffnbclpaaGreatDoorW.PrintWords Go.Proofs.YthgfdnffnbclpaaGreatDoorW.PrintLast Go.Proofs.YthgfdnffnbclpaaGreatDoorW.PrintMore
theorem createP_refs {v : Bool} {s : List S49} {d : Data} {nm : ByteArray} {defs : List S109} {keys : List (List ByteArray)} {refs : List S105} (h : err0 v s nm defs keys refs = 0) (h0 : (keysF (defs.map madeC) keys []).2 = 0) : createP v s d nm defs keys refs =
  if (refsF s (defs.map madeC) refs []).2 = 0 then (s ++ [⟨nm, defs.map madeC, (keysF (defs.map madeC) keys []).1, (refsF s (defs.map madeC) refs []).1, []⟩], d ++ [[]], 0) else ([], [], (refsF s (defs.map madeC) refs []).2) := by
 have h1 : keysE 0 (defs.map madeC) keys [] = keysF (defs.map madeC) keys [] := by unfold keysE; rw [if_pos rfl]
 have h2 : refsE (keysF (defs.map madeC) keys []).2 s (defs.map madeC) refs [] = refsF s (defs.map madeC) refs [] := by unfold refsE; rw [if_pos h0]
 unfold createP
 rw [h, h1, h2]
theorem made_col {x : S109} (h : defB x = true) : colB (madeC x) = true := by
 unfold defB plainB at h
 unfold colB madeC
 rw [Bool.and_eq_true] at h
 obtain ⟨h1, h2⟩ := h
 simp only [h1, Bool.true_and]
 by_cases q0 : x.f1 = 0
 ·rw [if_pos q0] at h2
  cases q : x.f2 <;> simp_all
 ·by_cases q2 : x.f1 = 2
  ·rw [if_neg q0, if_pos q2] at h2
   cases q : x.f2 <;> simp_all
  ·by_cases q13 : x.f1 = 1 ∨ x.f1 = 3
   ·rw [if_neg q0, if_neg q2, if_pos q13] at h2
    rcases q13 with q13 | q13
    all_goals cases q : x.f2 <;> simp_all
   ·rw [if_neg q0, if_neg q2, if_neg q13] at h2
    cases h2
theorem reads_one {α : Type} {W : World} {b n : Nat} {t : TypeId} {cs : List Value} (x : α) (h : W.heap[b]? = some (.cells cs.toArray t (0, 0))) (hl : cs.length = n) : ReadsRow (fun p c => p = x ∧ c = cs) n W (some ⟨b, 0, none⟩) 1 [x] :=
 ⟨rfl, by omega, fun _ => ⟨_, rfl, fun j p hj => by
  cases j with
  | zero =>
   refine ⟨cs, hl, ⟨(Option.some.inj hj).symm, rfl⟩, fun i u hu => ?_⟩
   rw [Nat.zero_mul, Nat.zero_add, add_plain]
   refine (blk_cell h i).trans ?_
   simpa using hu
  | succ j => simp at hj⟩⟩
theorem sz49 : k49.sz = 5 := rfl
theorem szRows : (Kd.slice 89 (Kd.slice 87 k64)).sz = 1 := rfl
theorem blk_over {α : Type} {d : Kd α} {e t base k : Nat} {ok : Nat → Prop} {a b : World} {v : Value} {xs : List α} {cs : Array Value} (hx : a.heap[k]? = some (.cells cs t (0, 0))) (h : d.R e a base ok v xs ∧ a.grownBy b v.ownBlock) (ht : e ≠ t) : b.heap[k]? = some (.cells cs t (0, 0)) :=
 blk_grown hx h.2 (Kd.R_ne h.1 hx ht)
theorem far41 {a b : World} {v : Value} {xs : List S49} {base : Nat} (hg : a.grownBy b v.ownBlock) (h : k49.R 72 a base (fun _ => True) v xs) : ∀ (k : Nat) (cs : Array Value), a.heap[k]? = some (.cells cs 41 (0, 0)) → b.heap[k]? = some (.cells cs 41 (0, 0)) := fun k cs hx => blk_over hx ⟨h, hg⟩ (by decide)
theorem new2 (w : World) (a : Obj) (cs : Array Value) (t : TypeId) : ((w.alloc a).alloc (Obj.cells cs t)).heap[w.heap.size + 1]? = some (.cells cs t (0, 0)) := by
 have s1 : (w.alloc a).heap.size = w.heap.size + 1 := Array.size_push _
 rw [← s1]
 exact Go.Deep.blk_alloc_new _ _
theorem dal {B : Nat} {a w : World} {o : Obj} (h : Below B a (w.drew.alloc o)) : Below B a ((w.alloc o).drew) := h
theorem newd (w : World) (cs : Array Value) (t : TypeId) : ((w.alloc (Obj.cells cs t)).drew).heap[w.heap.size]? = some (.cells cs t (0, 0)) := Go.Deep.blk_alloc_new w _
theorem new2d (w : World) (a : Obj) (cs : Array Value) (t : TypeId) : (((w.alloc a).alloc (Obj.cells cs t)).drew).heap[w.heap.size + 1]? = some (.cells cs t (0, 0)) := new2 w a cs t
theorem new1d (w : World) (b : Obj) (cs : Array Value) (t : TypeId) : (((w.alloc (Obj.cells cs t)).alloc b).drew).heap[w.heap.size]? = some (.cells cs t (0, 0)) := blk_alloc (Go.Deep.blk_alloc_new w _) b
theorem over49 {a b : World} {v u : Value} {xs : List S49} {d : Data} {base bs : Nat} (hg : a.grownBy b u.ownBlock) (h : k49.R 72 a base (fun _ => True) v xs) (hd : (Kd.slice 89 (Kd.slice 87 k64)).R 41 a bs (fun _ => True) u d) : k49.R 72 b base (fun _ => True) v xs := Kd.R_over' h (Kd.R_typed hd) (by decide) hg
set_option maxHeartbeats 4000000 in
set_option maxRecDepth 100000 in
theorem create_walk (k : Nat) (A0 : Option Addr) (c0 : Nat) (s : List S49) (A1 : Option Addr) (c1 : Nat) (d : Data) (nm : ByteArray) (A3 : Option Addr) (c3 : Nat) (defs : List S109) (A4 : Option Addr) (c4 : Nat) (keys : List (List ByteArray)) (A5 : Option Addr) (c5 : Nat) (refs : List S105) (v : Bool) (w : World)
  (hS : Kd.C k49 w A0 s.length s) (hc0 : s.length ≤ c0) (hD : Kd.C (Kd.slice 89 (Kd.slice 87 k64)) w A1 d.length d) (hc1 : d.length ≤ c1)
  (h3 : Kd.C k109 w A3 defs.length defs) (hc3 : defs.length ≤ c3) (h4 : Kd.C (Kd.slice 9 Kd.string) w A4 keys.length keys) (hc4 : keys.length ≤ c4) (h5 : Kd.C k105 w A5 refs.length refs) (hc5 : refs.length ≤ c5)
  (hwd : wfData d) (hv : dataP k s d = some v) (hsd : v = true → smallData d ∧ smallSch s ∧ ∀ t ∈ s, t.f1.length ≤ 8) (hL : LaidL w)
  (hb3 : defs.length ≤ 2000000) (hz3 : ∀ x ∈ defs, x.f0.size ≤ 9223372036854775807) (hb4 : ∀ l ∈ keys, l.length ≤ 2000000)
  (hb5 : ∀ r ∈ refs, r.f0.length ≤ 2000000 ∧ r.f2.length ≤ 2000000 ∧ (∀ x ∈ r.f0, x.size ≤ 9223372036854775807) ∧ (∀ x ∈ r.f2, x.size ≤ 9223372036854775807)) :
  Calls Tryz.prog 18 #[.slice A0 s.length c0, .slice A1 d.length c1, .string nm, .slice A3 defs.length c3, .slice A4 keys.length c4, .slice A5 refs.length c5] w fun e w' => ∃ v0 v1 : Value, e = .returned (.tuple #[v0, v1, .int .i64 (createP v s d nm defs keys refs).2.2]) ∧ k49.R 72 w' w.heap.size (fun _ => True) v0 (createP v s d nm defs keys refs).1 ∧ (Kd.slice 89 (Kd.slice 87 k64)).R 41 w' w.heap.size (fun _ => True) v1 (createP v s d nm defs keys refs).2.1 ∧ Below w.heap.size w w' := by
 have HV := Aside0.mk (validData_walk k A0 c0 s A1 c1 d v w hS hc0 hD hc1 hwd hL hv)
 have HF : Aside0 (∀ W, Below w.heap.size w W → Calls Tryz.prog 33 #[.slice A0 s.length c0, .string nm] W fun e w' => e = .returned (.int .i64 (findP nm 0 s)) ∧ Below W.heap.size W w') := ⟨fun W hW => scheme_find.calls A0 c0 s nm _ W (Kd.C_below hS hW) hc0 rfl⟩
 have HN : Aside0 (∀ W, Below w.heap.size w W → Calls Tryz.prog 52 #[.string nm] W fun e w' => e = .returned (.bool (nmB nm)) ∧ Below W.heap.size W w') := ⟨fun W hW => isName_walk nm W (LaidL.below ⟨hL⟩ hW)⟩
 have H53 : Aside0 (∀ W, Below w.heap.size w W → Calls Tryz.prog 53 #[.slice A3 defs.length c3, .func (.func 54) #[] #[]] W fun e w' => e = .returned (.bool (defs.any (fun x => !defB x))) ∧ Below W.heap.size W w') := ⟨fun W hW => conD_walk A3 c3 defs _ W (Kd.C_below h3 hW) hc3 (fun x _ W2 hW2 => notDef_walk x W2 (LaidL.below ⟨hL⟩ (below_step hW hW2)))⟩
 have H56 : Aside0 (∀ W, Below w.heap.size w W → Calls Tryz.prog 56 #[.slice A4 keys.length c4, .func (.func 57) #[] #[]] W fun e w' => e = .returned (.bool (keys.any (fun l => !namesB l))) ∧ Below W.heap.size W w') := ⟨fun W hW => conL_walk A4 c4 keys _ W (Kd.C_below h4 hW) hc4 (fun x _ A c W2 hW2 hC hc => notNames_walk A c x W2 hC hc (LaidL.below ⟨hL⟩ (below_step hW hW2)))⟩
 have H59 : Aside0 (∀ W, Below w.heap.size w W → Calls Tryz.prog 59 #[.slice A5 refs.length c5, .func (.func 60) #[] #[]] W fun e w' => e = .returned (.bool (refs.any (fun r => !refdB r))) ∧ Below W.heap.size W w') := ⟨fun W hW => conR_walk A5 c5 refs _ W (Kd.C_below h5 hW) hc5 (fun x _ A c A2 c2 W2 hW2 hC hc hC2 hc2 => notRef_walk A c A2 c2 x W2 hC hc hC2 hc2 (LaidL.below ⟨hL⟩ (below_step hW hW2)))⟩
 have H61 : Aside0 (∀ W, Below w.heap.size w W → Calls Tryz.prog 61 #[.slice A3 defs.length c3, .func (.func 62) #[] #[]] W fun e w' => ∃ v0_ : Value, e = .returned (v0_) ∧ k78.R 83 w' W.heap.size (fun _ => True) v0_ (defs.map madeC) ∧ Below W.heap.size W w') := ⟨fun W hW => mapMade_walk A3 c3 defs W (Kd.C_below h3 hW) hc3 hb3⟩
 have H65 : Aside0 (∀ W, Below w.heap.size w W → Calls Tryz.prog 65 #[.slice A3 defs.length c3, .func (.func 66) #[] #[]] W fun e w' => ∃ v0_ : Value, e = .returned (v0_) ∧ Kd.string.R 9 w' W.heap.size (fun _ => True) v0_ (defs.map fun x => x.f0) ∧ Below W.heap.size W w') := ⟨fun W hW => mapNames_walk A3 c3 defs W (Kd.C_below h3 hW) hc3 hb3⟩
 have H64 : Aside0 (∀ (A : Option Addr) (c : Nat) (W : World), (defs.map fun x => x.f0).length ≤ c → Kd.C Kd.string W A (defs.map fun x => x.f0).length (defs.map fun x => x.f0) → Calls Tryz.prog 64 #[.slice A (defs.map fun x => x.f0).length c] W fun e w' => e = .returned (.bool (distP [] (defs.map fun x => x.f0))) ∧ Below W.heap.size W w') := ⟨fun A c W hc hC => scheme_distinct_string.calls A c _ _ W hC hc (by unfold scheme_distinct_string.f; rw [if_pos (List.all_eq_true.2 (fun x hx => decide_eq_true (by obtain ⟨y, hy, rfl⟩ := List.mem_map.1 hx; exact hz3 y hy)))])⟩
 have HSD := Aside0.mk hsd
 have HS := Aside0.mk hS
 have HDT := Aside0.mk hD
 have HK4 := Aside0.mk h4
 have HR5 := Aside0.mk h5
 have HB4 := Aside0.mk hb4
 have HB5 := Aside0.mk hb5
 clear hS hD h3 h4 h5 hwd hv hsd hL hz3 hb4 hb5
 unfold createP
 have HE0 : Aside0 (err0 v s nm defs keys refs = 0 → v = true ∧ s.length < 16 ∧ defs.length ≤ 8 ∧ keys.length ≤ 4 ∧ refs.length ≤ 4) := ⟨fun h => by obtain ⟨q1, _, _, _, _, _, q2, q3, q4, q5, _⟩ := err0_parts h; exact ⟨q1, q2, q3, q4, q5⟩⟩
 have HEQ : Aside0 (err0 v s nm defs keys refs = askE (askE (askE (askE 0 ((((!v || !nmB nm) || defs.any (fun x => !defB x)) || keys.any (fun l => !namesB l)) || refs.any (fun r => !refdB r)) 1) (decide (0 ≤ findP nm 0 s)) 70) (((decide ((16 : Int) ≤ (s.length : Int)) || decide ((8 : Int) < (defs.length : Int))) || decide ((4 : Int) < (keys.length : Int))) || decide ((4 : Int) < (refs.length : Int))) 72) (!distP [] (defs.map fun x => x.f0)) 70) := ⟨by
  unfold err0 wrongP bigP
  have e1 : decide ((16 : Int) ≤ (s.length : Int)) = decide (16 ≤ s.length) := by congr 1; simp; omega
  have e2 : decide ((8 : Int) < (defs.length : Int)) = decide (8 < defs.length) := by congr 1; simp; omega
  have e3 : decide ((4 : Int) < (keys.length : Int)) = decide (4 < keys.length) := by congr 1; simp; omega
  have e4 : decide ((4 : Int) < (refs.length : Int)) = decide (4 < refs.length) := by congr 1; simp; omega
  rw [e1, e2, e3, e4]
  simp only [Bool.or_assoc]⟩
 generalize err0 v s nm defs keys refs = E at *
 generalize hKF : keysE E (defs.map madeC) keys [] = KF at *
 generalize hRF : refsE KF.2 s (defs.map madeC) refs [] = RF at *
 have HP1 : Aside0 (RF.2 ≠ 0 → (if RF.2 = 0 then (s ++ [(⟨nm, defs.map madeC, KF.1, RF.1, []⟩ : S49)], d ++ [[]], 0) else ([], [], RF.2) : List S49 × Data × Int) = ([], [], RF.2)) := ⟨fun h => if_neg h⟩
 have HP2 : Aside0 (RF.2 = 0 → (if RF.2 = 0 then (s ++ [(⟨nm, defs.map madeC, KF.1, RF.1, []⟩ : S49)], d ++ [[]], 0) else ([], [], RF.2) : List S49 × Data × Int) = (s ++ [⟨nm, defs.map madeC, KF.1, RF.1, []⟩], d ++ [[]], 0)) := ⟨fun h => if_pos h⟩
 generalize (if RF.2 = 0 then (s ++ [(⟨nm, defs.map madeC, KF.1, RF.1, []⟩ : S49)], d ++ [[]], 0) else ([], [], RF.2) : List S49 × Data × Int) = PR at *
 have HKF := Aside0.mk hKF
 have HRF := Aside0.mk hRF
 clear hKF hRF
 generalize findP nm 0 s = fp at *
 generalize nmB nm = b2 at *
 generalize defs.any (fun x => !defB x) = b3 at *
 generalize keys.any (fun l => !namesB l) = b4 at *
 generalize refs.any (fun r => !refdB r) = b5 at *
 have HLEN3 : Aside0 ((defs.map fun x => x.f0).length = defs.length) := ⟨List.length_map _⟩
 generalize (defs.map fun x => x.f0) = nms at *
 have HCL : Aside0 ((defs.map madeC).length = defs.length) := ⟨List.length_map _⟩
 generalize defs.map madeC = cols at *
 generalize distP [] nms = b6 at *
 go_enter Tryz.func18, Tryz.ntmps18
 go_upto_region 1 with fail
 go_cut [15] (fun s15 wx => s15 = .bool (!v || !b2) ∧ Aside0 (Below w.heap.size w wx))
 case first =>
  cases v
  all_goals go_wp2_with (first | (go_at_call 29; refine HV.out.mono ?_; rintro e w1 ⟨rfl, hb1⟩) | (go_at_call 52; refine (HN.out _ hb1).mono ?_; rintro e w2 ⟨rfl, hb2⟩))
  all_goals go_meet
  ·exact ⟨rfl, ⟨hb1⟩⟩
  ·exact ⟨rfl, ⟨below_step hb1 hb2⟩⟩
 case rest =>
 obtain ⟨rfl, HW1⟩ := hcut
 generalize (!v || !b2) = x1 at *
 go_upto_region 2 with fail
 go_cut [15] (fun s15 wx => s15 = .bool (x1 || b3) ∧ Aside0 (Below w.heap.size w wx))
 case first =>
  cases x1
  all_goals go_wp2_with (go_at_call 53; refine (H53.out _ HW1.out).mono ?_; rintro e w2 ⟨rfl, hb2⟩)
  all_goals go_meet
  ·exact ⟨rfl, ⟨below_step HW1.out hb2⟩⟩
  ·exact ⟨rfl, HW1⟩
 case rest =>
 clear HW1
 obtain ⟨rfl, HW1⟩ := hcut
 generalize (x1 || b3) = x2 at *
 go_upto_region 3 with fail
 go_cut [15] (fun s15 wx => s15 = .bool (x2 || b4) ∧ Aside0 (Below w.heap.size w wx))
 case first =>
  cases x2
  all_goals go_wp2_with (go_at_call 56; refine (H56.out _ HW1.out).mono ?_; rintro e w2 ⟨rfl, hb2⟩)
  all_goals go_meet
  ·exact ⟨rfl, ⟨below_step HW1.out hb2⟩⟩
  ·exact ⟨rfl, HW1⟩
 case rest =>
 clear HW1
 obtain ⟨rfl, HW1⟩ := hcut
 generalize (x2 || b4) = x3 at *
 go_upto_region 4 with fail
 go_cut [15] (fun s15 wx => s15 = .bool (x3 || b5) ∧ Aside0 (Below w.heap.size w wx))
 case first =>
  cases x3
  all_goals go_wp2_with (go_at_call 59; refine (H59.out _ HW1.out).mono ?_; rintro e w2 ⟨rfl, hb2⟩)
  all_goals go_meet
  ·exact ⟨rfl, ⟨below_step HW1.out hb2⟩⟩
  ·exact ⟨rfl, HW1⟩
 case rest =>
 clear HW1
 obtain ⟨rfl, HW1⟩ := hcut
 generalize (x3 || b5) = x4 at *
 clear H53 H56 H59 HN HV
 go_upto_region 8 with (first
  | (go_at_call 61; refine (H61.out _ HW1.out).mono ?_; rintro e w6 ⟨v6, rfl, hv6, hb6⟩; obtain ⟨A6, c6, e6⟩ := Kd.R_slice hv6; subst e6; have HV6 := Aside0.mk (Kd.R_lower hv6 HW1.out.size); have HW6 := Aside0.mk (below_step HW1.out hb6); have HBA := Aside0.mk (Go.Deep.blk_alloc_new w6 (Obj.cells #[.slice A0 s.length c0, .string nm, .slice A6 cols.length c6, .slice none 0 0, .slice none 0 0, .slice none 0 0, .int .i64 0] 118)); have HBB : Aside0 (w6.grownBy (w6.alloc (Obj.cells #[.slice A0 s.length c0, .string nm, .slice A6 cols.length c6, .slice none 0 0, .slice none 0 0, .slice none 0 0, .int .i64 0] 118)) (some w6.heap.size)) := ⟨grown_below ((Below.refl _ _).alloc (Nat.le_refl _) _) _⟩; clear hv6 hb6)
  | (go_at_call 63; refine (ask_walk w6.heap.size _ _ _ _ _ _ _ _ _ _ HBA.out).mono ?_; rintro e w7 ⟨rfl, hb7, hg7⟩; have HBA := Aside0.mk hb7; have HBB := Aside0.mk (grown_trans HBB.out hg7); have HBL := Aside0.mk (HW6.out.trans (grown_belowB HBB.out HW6.out.size HW6.out.size)); clear hb7 hg7)
  | (go_at_call 33; refine (HF.out _ HBL.out).mono ?_; rintro e w8 ⟨rfl, hb8⟩; have HBB := Aside0.mk (grown_trans HBB.out (grown_below hb8 _)); have HBA := Aside0.mk ((hb8.block _ (blk_lt HBA.out)).trans HBA.out); clear hb8))
 generalize askE (askE 0 x4 1) (decide (0 ≤ fp)) 70 = E2 at *
 clear HF HBL HW1 H61
 go_cut [] (fun wx => Aside0 (wx.heap[w6.heap.size]? = some (.cells #[.slice A0 s.length c0, .string nm, .slice A6 cols.length c6, .slice none 0 0, .slice none 0 0, .slice none 0 0, .int .i64 (askE E2 (((decide ((16 : Int) ≤ (s.length : Int)) || decide ((8 : Int) < (defs.length : Int))) || decide ((4 : Int) < (keys.length : Int))) || decide ((4 : Int) < (refs.length : Int))) 72)] 118 (0, 0))) ∧ Aside0 (w6.grownBy wx (some w6.heap.size)))
 case first =>
  cases q1 : decide ((16 : Int) ≤ (s.length : Int)) <;> cases q2 : decide ((8 : Int) < (defs.length : Int)) <;> cases q3 : decide ((4 : Int) < (keys.length : Int)) <;> cases q4 : decide ((4 : Int) < (refs.length : Int))
  all_goals
   go_wp2_with (go_at_call 63; refine (ask_walk w6.heap.size _ _ _ _ _ _ _ _ _ _ HBA.out).mono ?_; rintro e w7 ⟨rfl, hb7, hg7⟩; have HB7 := Aside0.mk hb7; have HG7 := Aside0.mk (grown_trans HBB.out hg7); clear hb7 hg7)
   go_meet
   rw [q1, q2, q3, q4]
   exact ⟨HB7, HG7⟩
 case rest =>
 clear HBA HBB
 obtain ⟨HBA, HBB⟩ := hcut
 generalize askE E2 (((decide ((16 : Int) ≤ (s.length : Int)) || decide ((8 : Int) < (defs.length : Int))) || decide ((4 : Int) < (keys.length : Int))) || decide ((4 : Int) < (refs.length : Int))) 72 = E3 at *
 have HBL := Aside0.mk (HW6.out.trans (grown_belowB HBB.out HW6.out.size HW6.out.size))
 go_upto_region 10 with (first
  | (go_at_call 65; refine (H65.out _ HBL.out).mono ?_; rintro e w7 ⟨v7, rfl, hv7, hb7⟩; obtain ⟨A7, c7, e7⟩ := Kd.R_slice hv7; subst e7; have HV7 := Aside0.mk (Kd.R_reads' hv7); have HBB := Aside0.mk (grown_trans HBB.out (grown_below hb7 _)); have HBA := Aside0.mk ((hb7.block _ (blk_lt HBA.out)).trans HBA.out); clear hv7 hb7)
  | (go_at_call 64; refine (H64.out _ _ _ HV7.out.2.1 HV7.out.2.2).mono ?_; rintro e w8 ⟨rfl, hb8⟩; have HBB := Aside0.mk (grown_trans HBB.out (grown_below hb8 _)); have HBA := Aside0.mk ((hb8.block _ (blk_lt HBA.out)).trans HBA.out); clear hb8)
  | (go_at_call 63; refine (ask_walk w6.heap.size _ _ _ _ _ _ _ _ _ _ HBA.out).mono ?_; rintro e w9 ⟨rfl, hb9, hg9⟩; have HBA := Aside0.mk hb9; have HBB := Aside0.mk (grown_trans HBB.out hg9); have HBL := Aside0.mk (HW6.out.trans (grown_belowB HBB.out HW6.out.size HW6.out.size)); clear hb9 hg9))
 rw [← HEQ.out] at HBA
 have HG : Aside0 (w.heap.size ≤ w6.heap.size) := ⟨HW6.out.size⟩
 have HBD : Aside0 (Bd w6.heap.size w.heap.size (.slice A0 s.length c0) nm cols [] [] E w9) := ⟨⟨HG.out, _, _, _, HBA.out, Kd.R_below HV6.out (grown_belowB HBB.out (Nat.le_refl _) (Nat.le_refl _)), Kd.R_nil _ _ _ _ _, Kd.R_nil _ _ _ _ _⟩⟩
 clear HEQ HBA HBB HW6 HV6 HV7 H64 H65
 generalize w6.heap.size = g at *
 generalize w9 = wl at *
 go_upto_block 0 with fail
 go_cut [] (fun wx => Aside0 (Bd g w.heap.size (.slice A0 s.length c0) nm cols KF.1 [] KF.2 wx) ∧ Aside0 (Below w.heap.size w wx) ∧ Aside0 (KF.2 = 0 → E = 0))
 case first =>
  go_wp2_with fail
  go_loopg [17] keys.length (fun gk v17 wx => ∃ (i : Nat) (ks : List (List Int)) (er : Int), i + gk = keys.length ∧ v17 = .int .i64 i ∧ Aside0 (Bd g w.heap.size (.slice A0 s.length c0) nm cols ks [] er wx) ∧ Aside0 (Below w.heap.size w wx) ∧ Aside0 (ks.length ≤ i) ∧ Aside0 (keysE er cols (keys.drop i) ks = KF) ∧ Aside0 (er = 0 → E = 0))
  case atStart => exact ⟨0, [], E, by omega, rfl, HBD, HBL, ⟨Nat.le_refl _⟩, ⟨by simpa using HKF.out⟩, ⟨id⟩⟩
  case round =>
   clear HBD HBL HKF
   obtain ⟨i, ks, er, hi, rfl, HBD, HBL, HKL, HKE, HER⟩ := hrel
   obtain ⟨hbg, v1, v2, v3, hb, h1, h2, h3⟩ := HBD.out
   obtain ⟨_, _, _, _, _, _, z6, _⟩ := seven_at hb
   clear hbg hb h1 h2 h3
   cases gk with
   | zero =>
    have hii : ¬ (i : Int) < (keys.length : Int) := by omega
    have HDR : Aside0 (keysE er cols [] ks = KF) := ⟨by have := HKE.out; rwa [List.drop_eq_nil_of_le (by omega)] at this⟩
    go_wp2_with fail
    go_meet
    have h9 := HDR.out
    rw [keysE_nil] at h9
    subst h9
    exact ⟨HBD, HBL, HER⟩
   | succ gk =>
    have hlt : i < keys.length := by omega
    have hii : (i : Int) < (keys.length : Int) := by omega
    by_cases her : er = 0
    case neg =>
     have d1 : (er == 0) = false := beq_eq_false_iff_ne.mpr her
     clear her
     go_wp2_with fail
     go_meet
     have h9 := HKE.out
     unfold keysE at h9
     rw [if_neg (by simpa using d1)] at h9
     subst h9
     exact ⟨HBD, HBL, HER⟩
    case pos =>
     subst her
     have d1 : ((0 : Int) == 0) = true := rfl
     have hi0 : (0 : Int) ≤ (i : Int) := by omega
     have hrd : rd_Ls keys (i : Int) = keys[i] := by simp [rd_Ls, List.getD, hlt]
     obtain ⟨ad, Ak, ck, hA, hx0, hl0, hC0⟩ := at_Ls (Kd.C_below HK4.out HBL.out) (i : Int) hi0 hii
     subst hA
     rw [hrd] at hx0 hl0 hC0
     rw [Int.toNat_natCast] at hx0
     obtain ⟨_, _, e3, e5, e4⟩ := HE0.out (HER.out rfl)
     have HKS : Aside0 (keysE (keyS cols ks keys[i]).2 cols (keys.drop (i + 1)) (keyS cols ks keys[i]).1 = KF) := ⟨by rw [← keysE_step, ← HKE.out, ← List.drop_eq_getElem_cons hlt]⟩
     have HLE := Aside0.mk (keyS_le cols ks keys[i])
     have HKW := Aside0.mk (key_walk g w.heap.size _ nm cols ks [] Ak ck keys[i] wr HBD.out hC0 hl0 (HB4.out _ (List.getElem_mem hlt)) (by rw [HCL.out]; exact e3) (by have := HKL.out; omega))
     have hk4 : keys.length ≤ 4 := e5
     have HE9 := Aside0.mk (HER.out rfl)
     generalize keyS cols ks keys[i] = kn at *
     generalize keys[i] = l at *
     clear hrd hC0 hl0 e3 e4 e5 HKE HER HBD
     go_wp2_with (go_at_call 67; refine HKW.out.mono ?_; rintro e w7 ⟨rfl, hB7, hb7⟩; have HB7 := Aside0.mk hB7; have HL7 := Aside0.mk (HBL.out.trans hb7); clear hB7 hb7)
     have HLE2 : Aside0 (kn.1.length ≤ i + 1) := ⟨by have := HLE.out; have := HKL.out; omega⟩
     go_roundg gk
     case measure => omega
     case rel => exact ⟨i + 1, kn.1, kn.2, by omega, by first | rfl | (simp; done) | (simp; unfold wrap64; omega), HB7, HL7, HLE2, HKS, ⟨fun _ => HE9.out⟩⟩
 case rest =>
 clear HBD HBL
 obtain ⟨HBD, HBL, HE1⟩ := hcut
 generalize wc = wl at *
 go_upto_block 2 with fail
 go_cut [] (fun wx => Aside0 (Bd g w.heap.size (.slice A0 s.length c0) nm cols KF.1 RF.1 RF.2 wx) ∧ Aside0 (Below w.heap.size w wx) ∧ Aside0 (RF.2 = 0 → E = 0))
 case first =>
  go_wp2_with fail
  go_loopg [18] refs.length (fun gk v18 wx => ∃ (i : Nat) (rs : List S75) (er : Int), i + gk = refs.length ∧ v18 = .int .i64 i ∧ Aside0 (Bd g w.heap.size (.slice A0 s.length c0) nm cols KF.1 rs er wx) ∧ Aside0 (Below w.heap.size w wx) ∧ Aside0 (rs.length ≤ i) ∧ Aside0 (refsE er s cols (refs.drop i) rs = RF) ∧ Aside0 (er = 0 → E = 0))
  case atStart => exact ⟨0, [], KF.2, by omega, rfl, HBD, HBL, ⟨Nat.le_refl _⟩, ⟨by simpa using HRF.out⟩, HE1⟩
  case round =>
   clear HBD HBL HRF HE1
   obtain ⟨i, rs, er, hi, rfl, HBD, HBL, HKL, HKE, HER⟩ := hrel
   obtain ⟨hbg, v1, v2, v3, hb, h1, h2, h3⟩ := HBD.out
   obtain ⟨_, _, _, _, _, _, z6, _⟩ := seven_at hb
   clear hbg hb h1 h2 h3
   cases gk with
   | zero =>
    have hii : ¬ (i : Int) < (refs.length : Int) := by omega
    have HDR : Aside0 (refsE er s cols [] rs = RF) := ⟨by have := HKE.out; rwa [List.drop_eq_nil_of_le (by omega)] at this⟩
    go_wp2_with fail
    go_meet
    have h9 := HDR.out
    rw [refsE_nil] at h9
    subst h9
    exact ⟨HBD, HBL, HER⟩
   | succ gk =>
    have hlt : i < refs.length := by omega
    have hii : (i : Int) < (refs.length : Int) := by omega
    by_cases her : er = 0
    case neg =>
     have d1 : (er == 0) = false := beq_eq_false_iff_ne.mpr her
     clear her
     go_wp2_with fail
     go_meet
     have h9 := HKE.out
     unfold refsE at h9
     rw [if_neg (by simpa using d1)] at h9
     subst h9
     exact ⟨HBD, HBL, HER⟩
    case pos =>
     subst her
     have d1 : ((0 : Int) == 0) = true := rfl
     have hi0 : (0 : Int) ≤ (i : Int) := by omega
     have hrd : rd_T105 refs (i : Int) = refs[i] := by simp [rd_T105, List.getD, hlt]
     obtain ⟨ad, Ak, ck, Am, cm, hA, hx0, hx1, hx2, hl0, hC0, hl2, hC2⟩ := at_T105 (Kd.C_below HR5.out HBL.out) (i : Int) hi0 hii
     obtain ⟨ad', Ak', ck', Am', cm', hA', hy0, hy1, hy2, _, hD0, _, hD2⟩ := at_T105 HR5.out (i : Int) hi0 hii
     rw [hA] at hA'
     cases hA'
     have t0 := (HBL.out.cell (World.block_lt_of_cell? w _ hy0)).trans hy0
     have t2 := (HBL.out.cell (World.block_lt_of_cell? w _ hy2)).trans hy2
     rw [hx0] at t0
     rw [hx2] at t2
     cases t0
     cases t2
     subst hA
     rw [hrd] at hx0 hx1 hx2 hl0 hD0 hl2 hD2
     rw [Int.toNat_natCast] at hx0 hx1 hx2
     obtain ⟨e2, e3, e4, e5, e6⟩ := HE0.out (HER.out rfl)
     have HKS : Aside0 (refsE (refS s cols rs refs[i]).2 s cols (refs.drop (i + 1)) (refS s cols rs refs[i]).1 = RF) := ⟨by rw [← refsE_step, ← HKE.out, ← List.drop_eq_getElem_cons hlt]⟩
     have HLE := Aside0.mk (refS_le s cols rs refs[i])
     have b9 := HB5.out _ (List.getElem_mem hlt)
     have HKW := Aside0.mk (ref_walk w g A0 c0 s nm cols KF.1 rs Ak ck Am cm refs[i] wr HS.out hc0 hD0 hl0 hD2 hl2 HBD.out HBL.out b9.1 b9.2.1 b9.2.2.1 b9.2.2.2 (by rw [HCL.out]; exact e4) (HSD.out e2).2.2 (by have := HKL.out; omega) (by omega))
     have hr4 : refs.length ≤ 4 := e6
     have HE9 := Aside0.mk (HER.out rfl)
     generalize refS s cols rs refs[i] = kn at *
     generalize refs[i] = l at *
     clear hrd hC0 hl0 hC2 hl2 hD0 hD2 hy0 hy1 hy2 e2 e3 e4 e5 e6 b9 HKE HER HBD
     go_wp2_with (go_at_call 68; refine HKW.out.mono ?_; rintro e w7 ⟨rfl, hB7, hb7⟩; have HB7 := Aside0.mk hB7; have HL7 := Aside0.mk (HBL.out.trans hb7); clear hB7 hb7)
     have HLE2 : Aside0 (kn.1.length ≤ i + 1) := ⟨by have := HLE.out; have := HKL.out; omega⟩
     go_roundg gk
     case measure => omega
     case rel => exact ⟨i + 1, kn.1, kn.2, by omega, by first | rfl | (simp; done) | (simp; unfold wrap64; omega), HB7, HL7, HLE2, HKS, ⟨fun _ => HE9.out⟩⟩
 case rest =>
 clear HBD HBL HE1 HRF HKF
 obtain ⟨HBD, HBL, HE1⟩ := hcut
 obtain ⟨hbg, v1, v2, v3, hb, h1, h2, h3⟩ := HBD.out
 obtain ⟨B1, b1, e1⟩ := Kd.R_slice h1
 obtain ⟨B2, b2, e2⟩ := Kd.R_slice h2
 obtain ⟨B3, b3, e3⟩ := Kd.R_slice h3
 subst e1 e2 e3
 obtain ⟨z0, z1, z2, z3, z4, z5, z6, _⟩ := seven_at hb
 by_cases her : RF.2 = 0
 case neg =>
  have HNE := Aside0.mk her
  have d1 : (RF.2 == 0) = false := beq_eq_false_iff_ne.mpr her
  have d2 : (RF.2 != 0) = true := by rw [bne, d1]; rfl
  clear her
  clear hbg hb h1 h2 h3
  go_wp2
  go_quiet (fail)
  go_wp2
  go_ret3
  have e9 := HP1.out HNE.out
  rw [e9]
  exact ⟨_, _, rfl, Kd.R_nil _ _ _ _ _, Kd.R_nil _ _ _ _ _, below_step HBL.out (pw_below_drewN (Below.refl _ _) nq)⟩
 case pos =>
  have HEZ := Aside0.mk her
  have d1 : (RF.2 != 0) = false := by rw [her]; rfl
  have HBK := Aside0.mk hb
  have HBG := Aside0.mk hbg
  have H1 := Aside0.mk h1
  have H2 := Aside0.mk h2
  have H3 := Aside0.mk h3
  clear her hb hbg h1 h2 h3
  go_wp2
  have HB1 := Aside0.mk (below_drew1 HBL.out)
  have HX1 := Aside0.mk (Kd.R_drew H1.out)
  have HX2 := Aside0.mk (Kd.R_drew H2.out)
  have HX3 := Aside0.mk (Kd.R_drew H3.out)
  have HC1 := Aside0.mk (blk_drew HBK.out)
  obtain ⟨e2, _, _, _, _⟩ := HE0.out (HE1.out HEZ.out)
  obtain ⟨hsd1, hss1, _⟩ := HSD.out e2
  have HD0 : wc.drew.cell? ⟨g, 1, none⟩ = some (.string nm) ∧ wc.drew.cell? ⟨g, 2, none⟩ = some (.slice B1 cols.length b1) ∧ wc.drew.cell? ⟨g, 3, none⟩ = some (.slice B2 KF.1.length b2) ∧ wc.drew.cell? ⟨g, 4, none⟩ = some (.slice B3 RF.1.length b3) ∧ wc.drew.cell? ⟨g, 5, none⟩ = some (.slice none 0 0) := by
   obtain ⟨_, y1, y2, y3, y4, y5, _⟩ := seven_at HC1.out
   exact ⟨y1, y2, y3, y4, y5⟩
  have HSM := Aside0.mk hss1
  have HDM := Aside0.mk hsd1
  have hsl : s.length ≤ 2000000 := hss1.1
  have hdl : d.length ≤ 2000000 := hsd1.1
  clear hss1 hsd1 e2 z0 z1 z2 z3 z4 z5 z6 HBL H1 H2 H3 HBK
  have KB : ∀ W, Below wc.drew.heap.size wc.drew W → (fun W => W.cell? ⟨g, 1, none⟩ = some (.string nm) ∧ W.cell? ⟨g, 2, none⟩ = some (.slice B1 cols.length b1) ∧ W.cell? ⟨g, 3, none⟩ = some (.slice B2 KF.1.length b2) ∧ W.cell? ⟨g, 4, none⟩ = some (.slice B3 RF.1.length b3) ∧ W.cell? ⟨g, 5, none⟩ = some (.slice none 0 0)) W := fun W hW => by
   obtain ⟨_, y1, y2, y3, y4, y5, _⟩ := seven_at ((hW.block g (blk_lt HC1.out)).trans HC1.out)
   exact ⟨y1, y2, y3, y4, y5⟩
  have HKB := Aside0.mk KB
  have HC34 : Aside0 (∀ W, Below wc.drew.heap.size wc.drew W → Calls Tryz.prog 34 #[.slice A0 s.length c0] W fun e w' => ∃ v0_ : Value, e = .returned (v0_) ∧ k49.R 72 w' wc.drew.heap.size (fun _ => True) v0_ s ∧ Below W.heap.size W w') := ⟨fun W hW => (copied_walk A0 c0 s W (Kd.C_below HS.out (below_step HB1.out hW)) hc0 HSM.out).mono fun e w' ⟨v, he, hS, hb⟩ => ⟨v, he, Kd.R_lower (Kd.S_R hS) hW.size, hb⟩⟩
  have HC37 : Aside0 (∀ W, Below wc.drew.heap.size wc.drew W → Calls Tryz.prog 37 #[.slice A1 d.length c1] W fun e w' => ∃ v0_ : Value, e = .returned (v0_) ∧ (Kd.slice 89 (Kd.slice 87 k64)).R 41 w' wc.drew.heap.size (fun _ => True) v0_ d ∧ Below W.heap.size W w') := ⟨fun W hW => (copiedData_walk A1 c1 d W (Kd.C_below HDT.out (below_step HB1.out hW)) hc1 HDM.out).mono fun e w' ⟨v, he, hS, hb⟩ => ⟨v, he, Kd.R_lower (Kd.S_R hS) hW.size, hb⟩⟩
  have HM : Aside0 (∀ W, Below wc.drew.heap.size wc.drew W → k49.M W w.heap.size (fun k => k < wc.drew.heap.size) ⟨nm, cols, KF.1, RF.1, []⟩ [.string nm, .slice B1 cols.length b1, .slice B2 KF.1.length b2, .slice B3 RF.1.length b3, .slice none 0 0]) := ⟨fun W hW => k49_mkM W _ _ ⟨nm, cols, KF.1, RF.1, []⟩ (Kd.R_below (Kd.R_mono (Kd.R_bound HX1.out) (fun k hk => hk.2.2.1)) hW) (Kd.R_below (Kd.R_mono (Kd.R_bound HX2.out) (fun k hk => hk.2.2.1)) hW) (Kd.R_below (Kd.R_mono (Kd.R_bound HX3.out) (fun k hk => hk.2.2.1)) hW) (Kd.R_nil _ _ _ _ _)⟩
  clear KB HC1 HX1 HX2 HX3
  go_region_held3 (fun W => W.cell? ⟨g, 1, none⟩ = some (.string nm) ∧ W.cell? ⟨g, 2, none⟩ = some (.slice B1 cols.length b1) ∧ W.cell? ⟨g, 3, none⟩ = some (.slice B2 KF.1.length b2) ∧ W.cell? ⟨g, 4, none⟩ = some (.slice B3 RF.1.length b3) ∧ W.cell? ⟨g, 5, none⟩ = some (.slice none 0 0)) (exact HKB.out _ (by repeat' (first | with_reducible exact Below.refl _ _ | with_reducible exact HBC124.out | with_reducible exact HBC122.out | with_reducible exact HBC34.out | with_reducible refine below_alloc ?_ _ | with_reducible refine dal ?_))) (first
   | (go_at_call 34; refine (HC34.out _ (by repeat' (first | with_reducible exact Below.refl _ _ | with_reducible exact HBC124.out | with_reducible exact HBC122.out | with_reducible exact HBC34.out | with_reducible refine below_alloc ?_ _ | with_reducible refine dal ?_))).mono ?_; rintro e w34 ⟨v34, rfl, hv34, hb34⟩; obtain ⟨Ax, cx, ex⟩ := Kd.R_slice hv34; subst ex; have HR34 := Aside0.mk hv34; have HB34 := Aside0.mk hb34; have HBC34 := Aside0.mk (below_step (w := wc.drew) (by repeat' (first | with_reducible exact Below.refl _ _ | with_reducible exact HBC124.out | with_reducible exact HBC122.out | with_reducible exact HBC34.out | with_reducible refine below_alloc ?_ _ | with_reducible refine dal ?_)) hb34); clear hv34 hb34)
   | (go_at_call 37; refine (HC37.out _ (by repeat' (first | with_reducible exact Below.refl _ _ | with_reducible exact HBC124.out | with_reducible exact HBC122.out | with_reducible exact HBC34.out | with_reducible refine below_alloc ?_ _ | with_reducible refine dal ?_))).mono ?_; rintro e w124 ⟨v124, rfl, hv124, hb124⟩; obtain ⟨Ay, cy, ey⟩ := Kd.R_slice hv124; subst ey; have HR124 := Aside0.mk hv124; have HB124 := Aside0.mk hb124; have HBC124 := Aside0.mk (below_step (w := wc.drew) (by repeat' (first | with_reducible exact Below.refl _ _ | with_reducible exact HBC124.out | with_reducible exact HBC122.out | with_reducible exact HBC34.out | with_reducible refine below_alloc ?_ _ | with_reducible refine dal ?_)) hb124); clear hv124 hb124)
   | (refine Kd.R_append_rows_step k49 (Rr := fun p c => p = (⟨nm, cols, KF.1, RF.1, []⟩ : S49) ∧ c = [.string nm, .slice B1 cols.length b1, .slice B2 KF.1.length b2, .slice B3 RF.1.length b3, .slice none 0 0]) (w0 := w) w.heap.size (by rfl) (.tmp 118) (.tmp 121) 23 72 (.agg #[(.string ⟨#[]⟩), (.slice none 0 0), (.slice none 0 0), (.slice none 0 0), (.slice none 0 0)]) 112 rfl Tryz.underlying23 info72 rfl (by decide) (by omega) (.slice Ax s.length cx) s [(⟨nm, cols, KF.1, RF.1, []⟩ : S49)] _ 1 1 (fun _ => True) (fun k => k < wc.drew.heap.size) rfl rfl ?aO ?aR ?aK (fun k hk => ⟨trivial, fun he => by have := Kd.R_base HR34.out k he.symm; omega⟩) (fun _ _ => trivial) ?aB ?aS (by omega) ?_; (case aO => (refine Kd.R_lower (base := wc.drew.heap.size) ?_ HB1.out.size; repeat' (first | with_reducible exact HR34.out | with_reducible refine Kd.R_below ?_ (below_alloc (Below.refl _ _) _)))); (case aR => ((with_reducible refine reads_one (t := 72) (cs := [.string nm, .slice B1 cols.length b1, .slice B2 KF.1.length b2, .slice B3 RF.1.length b3, .slice none 0 0]) (⟨nm, cols, KF.1, RF.1, []⟩ : S49) ?_ ?_); rotate_left; exact sz49.symm; first | with_reducible exact Go.Deep.blk_alloc_new _ _ | with_reducible exact new2 _ _ _ _ | (with_reducible refine blk_below ?_ HB34.out; first | with_reducible exact new2 _ _ _ _ | with_reducible exact newd _ _ _ | with_reducible exact new2d _ _ _ _ | with_reducible exact new1d _ _ _ _) | (with_reducible refine blk_alloc ?_ _; with_reducible refine blk_below ?_ HB34.out; first | with_reducible exact newd _ _ _ | with_reducible exact new2d _ _ _ _ | with_reducible exact new1d _ _ _ _) | (with_reducible refine blk_alloc ?_ _; with_reducible exact Go.Deep.blk_alloc_new _ _) | (with_reducible refine blk_below ?_ HB34.out; with_reducible exact Go.Deep.blk_alloc_new _ _) | (with_reducible refine blk_below ?_ HB34.out; with_reducible refine blk_alloc ?_ _; with_reducible exact Go.Deep.blk_alloc_new _ _) | (with_reducible refine blk_alloc ?_ _; with_reducible refine blk_below ?_ HB34.out; with_reducible exact Go.Deep.blk_alloc_new _ _) | (with_reducible refine blk_alloc ?_ _; with_reducible refine blk_below ?_ HB34.out; with_reducible refine blk_alloc ?_ _; with_reducible exact Go.Deep.blk_alloc_new _ _))); (case aK => (intro p c hpc; obtain ⟨e1, e2⟩ := hpc; rw [e1, e2]; refine HM.out _ ?_; repeat' (first | with_reducible exact Below.refl _ _ | with_reducible exact HBC124.out | with_reducible exact HBC122.out | with_reducible exact HBC34.out | with_reducible refine below_alloc ?_ _ | with_reducible refine dal ?_))); (case aB => (refine HB1.out.trans (Below.mono (B := wc.drew.heap.size) ?_ HB1.out.size); repeat' (first | with_reducible exact Below.refl _ _ | with_reducible exact HBC124.out | with_reducible exact HBC122.out | with_reducible exact HBC34.out | with_reducible refine below_alloc ?_ _ | with_reducible refine dal ?_))); (case aS => (refine Nat.le_trans HB1.out.size (Below.size (B := wc.drew.heap.size) ?_); repeat' (first | with_reducible exact Below.refl _ _ | with_reducible exact HBC124.out | with_reducible exact HBC122.out | with_reducible exact HBC34.out | with_reducible refine below_alloc ?_ _ | with_reducible refine dal ?_))); intro v122 w122 hv122 hb122 hg122 _; obtain ⟨Az, cz, ez⟩ := Kd.R_slice hv122; subst ez; have HR122 := Aside0.mk hv122; have HG122 := Aside0.mk hg122; have HT122 := Aside0.mk (far41 (base := wc.drew.heap.size) (xs := s) hg122 (by repeat' (first | with_reducible exact HR34.out | with_reducible refine Kd.R_below ?_ (below_alloc (Below.refl _ _) _)))); have HBC122 := Aside0.mk (Below.grown (B := wc.drew.heap.size) (a := wc.drew) (by repeat' (first | with_reducible exact Below.refl _ _ | with_reducible exact HBC124.out | with_reducible exact HBC122.out | with_reducible exact HBC34.out | with_reducible refine below_alloc ?_ _ | with_reducible refine dal ?_)) hg122 (Below.size (B := wc.drew.heap.size) (w := wc.drew) (by repeat' (first | with_reducible exact Below.refl _ _ | with_reducible exact HBC124.out | with_reducible exact HBC122.out | with_reducible exact HBC34.out | with_reducible refine below_alloc ?_ _ | with_reducible refine dal ?_))) (fun k hk => Kd.R_base HR34.out k hk)); clear hv122 hb122 hg122)
   | (refine Kd.R_append_rows_step (Kd.slice 89 (Kd.slice 87 k64)) (Rr := fun p c => p = ([] : Rows) ∧ c = [.slice none 0 0]) (w0 := w) w.heap.size (by rfl) (.tmp 124) (.tmp 125) 25 41 (.slice none 0 0) 24 rfl Tryz.underlying25 (by kernel_rfl) rfl (by decide) (by omega) (.slice Ay d.length cy) d [([] : Rows)] _ 1 1 (fun _ => True) (fun k => False) rfl rfl ?bO ?bR ?bK (fun k hk => hk.elim) (fun _ _ => trivial) ?bB ?bS (by omega) ?_; (case bO => (refine Kd.R_lower (base := wc.drew.heap.size) ?_ HB1.out.size; repeat' (first | with_reducible exact HR124.out | with_reducible refine Kd.R_below ?_ (below_alloc (Below.refl _ _) _)))); (case bR => ((with_reducible refine reads_one (t := 41) (cs := [.slice none 0 0]) ([] : Rows) ?_ ?_); rotate_left; exact szRows.symm; repeat' (first | with_reducible exact Go.Deep.blk_alloc_new _ _ | with_reducible exact new2 _ _ _ _ | with_reducible exact newd _ _ _ | with_reducible exact new2d _ _ _ _ | with_reducible exact new1d _ _ _ _ | with_reducible refine blk_below ?_ HB124.out | with_reducible refine HT122.out _ _ ?_ | with_reducible refine blk_below ?_ HB34.out | with_reducible refine blk_alloc ?_ _))); (case bK => (intro p c hpc; obtain ⟨e1, e2⟩ := hpc; rw [e1, e2]; exact Kd.M_row (Kd.R_nil _ _ _ _ _))); (case bB => (refine HB1.out.trans (Below.mono (B := wc.drew.heap.size) ?_ HB1.out.size); repeat' (first | with_reducible exact Below.refl _ _ | with_reducible exact HBC124.out | with_reducible exact HBC122.out | with_reducible exact HBC34.out | with_reducible refine below_alloc ?_ _ | with_reducible refine dal ?_))); (case bS => (refine Nat.le_trans HB1.out.size (Below.size (B := wc.drew.heap.size) ?_); repeat' (first | with_reducible exact Below.refl _ _ | with_reducible exact HBC124.out | with_reducible exact HBC122.out | with_reducible exact HBC34.out | with_reducible refine below_alloc ?_ _ | with_reducible refine dal ?_))); intro v126 w126 hv126 hb126 hg126 _; have HF1 := Aside0.mk (over49 (v := .slice Az (s ++ [(⟨nm, cols, KF.1, RF.1, []⟩ : S49)]).length cz) (u := .slice Ay d.length cy) (base := w.heap.size) (bs := wc.drew.heap.size) (xs := s ++ [(⟨nm, cols, KF.1, RF.1, []⟩ : S49)]) (d := d) hg126 (by repeat' (first | with_reducible exact HR122.out | with_reducible refine Kd.R_below ?_ HB124.out | with_reducible refine Kd.R_below ?_ (below_alloc (Below.refl _ _) _))) (by repeat' (first | with_reducible exact HR124.out | with_reducible refine Kd.R_below ?_ (below_alloc (Below.refl _ _) _)))); have HF2 := Aside0.mk hv126; have HF3 := Aside0.mk hb126; have HBC124 := Aside0.mk (Below.grown (B := wc.drew.heap.size) (a := wc.drew) (by repeat' (first | with_reducible exact Below.refl _ _ | with_reducible exact HBC124.out | with_reducible exact HBC122.out | with_reducible exact HBC34.out | with_reducible refine below_alloc ?_ _ | with_reducible refine dal ?_)) hg126 (Below.size (B := wc.drew.heap.size) (w := wc.drew) (by repeat' (first | with_reducible exact Below.refl _ _ | with_reducible exact HBC124.out | with_reducible exact HBC122.out | with_reducible exact HBC34.out | with_reducible refine below_alloc ?_ _ | with_reducible refine dal ?_))) (fun k hk => Kd.R_base HR124.out k hk)); clear hv126 hb126 hg126))
  all_goals
   go_wp2
   go_ret3
   have e9 := HP2.out HEZ.out
   rw [e9]
   have hf := HF1.out
   rw [show (s ++ [(⟨nm, cols, KF.1, RF.1, []⟩ : S49)]).length = s.length + 1 by simp] at hf
   exact ⟨_, _, rfl, hf, HF2.out, HF3.out⟩
def smallS : List S49 := [⟨⟨#[116]⟩, [⟨⟨#[97]⟩, 1, false, 0, 9⟩, ⟨⟨#[98]⟩, 2, false, 0, 3⟩], [[0]], [], []⟩, ⟨⟨#[117]⟩, [⟨⟨#[97]⟩, 1, true, 0, 9⟩], [], [⟨[0], 0, 0⟩], []⟩]
def smallD : Data := [[[⟨1, 1, ⟨#[]⟩⟩, ⟨0, 0, ⟨#[]⟩⟩]], [[⟨1, 1, ⟨#[]⟩⟩]]]
def smallR : Rows := [[⟨1, 2, ⟨#[]⟩⟩, ⟨2, 0, ⟨#[120]⟩⟩]]
def smallF : Data := [[[⟨1, 1, ⟨#[]⟩⟩, ⟨0, 0, ⟨#[]⟩⟩], [⟨1, 2, ⟨#[]⟩⟩, ⟨2, 0, ⟨#[120]⟩⟩]], [[⟨1, 1, ⟨#[]⟩⟩]]]
theorem C_one {α : Type} (d : Kd α) {W : World} {g t : Nat} {c : List Value} {x : α} (h : W.heap[g]? = some (.cells c.toArray t (0, 0))) (hK : d.K W x c) : Kd.C d W (some ⟨g, 0, none⟩) 1 [x] :=
 ⟨rfl, by omega, fun _ => ⟨_, rfl, fun j p hj => by
  cases j with
  | succ j => simp at hj
  | zero =>
   cases (Option.some.inj hj)
   refine ⟨c, d.K_len hK, hK, fun i u hu => ?_⟩
   rw [Nat.zero_mul, Nat.zero_add, add_plain]
   exact (blk_cell h i).trans (by simpa using hu)⟩⟩
theorem C_two {α : Type} (d : Kd α) {W : World} {g t : Nat} {c c2 : List Value} {x y : α} (h : W.heap[g]? = some (.cells (c ++ c2).toArray t (0, 0))) (hK : d.K W x c) (hK2 : d.K W y c2) : Kd.C d W (some ⟨g, 0, none⟩) 2 [x, y] :=
 ⟨rfl, by omega, fun _ => ⟨_, rfl, fun j p hj => by
  have hl := d.K_len hK
  cases j with
  | zero =>
   cases (Option.some.inj hj)
   refine ⟨c, hl, hK, fun i u hu => ?_⟩
   rw [Nat.zero_mul, Nat.zero_add, add_plain]
   have hi := (List.getElem?_eq_some_iff.1 hu).1
   refine (blk_cell h i).trans ?_
   rw [List.getElem?_toArray, List.getElem?_append_left hi, hu]
  | succ j =>
   cases j with
   | succ j => simp at hj
   | zero =>
    cases (Option.some.inj hj)
    refine ⟨c2, d.K_len hK2, hK2, fun i u hu => ?_⟩
    rw [Nat.zero_add, Nat.one_mul, add_plain]
    refine (blk_cell h _).trans ?_
    rw [List.getElem?_toArray, List.getElem?_append_right (by omega), ← hl, Nat.add_sub_cancel_left, hu]⟩⟩
theorem allocs_at : ∀ (L : List Obj) (w : World), Below w.heap.size w (L.foldl World.alloc w) ∧ ∀ i, i < L.length → (L.foldl World.alloc w).heap[w.heap.size + i]? = L[i]?
 | [], w => ⟨Below.refl _ _, fun i hi => by simp at hi⟩
 | o :: r, w => by
  obtain ⟨h1, h2⟩ := allocs_at r (w.alloc o)
  have hs : (w.alloc o).heap.size = w.heap.size + 1 := Array.size_push _
  have hn : (w.alloc o).heap[w.heap.size]? = some o := Array.getElem?_push_size
  refine ⟨below_step (below_alloc (Below.refl _ _) o) h1, fun i hi => ?_⟩
  cases i with
  | zero => exact (h1.block _ (by omega)).trans hn
  | succ i =>
   have := h2 i (by simpa using hi)
   rw [hs, Nat.add_assoc, Nat.add_comm 1 i] at this
   exact this
set_option maxHeartbeats 4000000 in
set_option maxRecDepth 100000 in
theorem small_walk (w : World) : Calls Tryz.prog 39 #[] w fun e w' => ∃ (A : Option Addr) (c : Nat) (A1 : Option Addr) (c1 : Nat), e = .returned (.tuple #[.slice A smallS.length c, .slice A1 smallD.length c1]) ∧ smallS.length ≤ c ∧ Kd.C k49 w' A smallS.length smallS ∧ smallD.length ≤ c1 ∧ Kd.C (Kd.slice 89 (Kd.slice 87 k64)) w' A1 smallD.length smallD ∧ Below w.heap.size w w' := by
 go_enter Tryz.func39, Tryz.ntmps39
 go_wp2
 go_ret2
 generalize hW : World.alloc _ _ = W
 obtain ⟨hb, hh⟩ := allocs_at [_, _, _, _, _, _, _, _, _, _, _, _] w
 replace hh := fun (i : Nat) (hi : i < 12) => (congrArg (fun V : World => V.heap[w.heap.size + i]?) hW).symm.trans (hh i hi)
 have hb : Below w.heap.size w W := by rw [← hW]; exact hb
 clear hW
 generalize w.heap.size = B at *
 have h0 := hh 0 (by decide)
 have h1 := hh 1 (by decide)
 have h2 := hh 2 (by decide)
 have h3 := hh 3 (by decide)
 have h4 := hh 4 (by decide)
 have h5 := hh 5 (by decide)
 have h6 := hh 6 (by decide)
 have h7 := hh 7 (by decide)
 have h8 := hh 8 (by decide)
 have h9 := hh 9 (by decide)
 have h10 := hh 10 (by decide)
 have h11 := hh 11 (by decide)
 clear hh
 have g0 := C_two k78 (c := [.string ⟨#[97]⟩, .int .u8 1, .bool false, .int .i64 0, .int .i64 9]) (c2 := [.string ⟨#[98]⟩, .int .u8 2, .bool false, .int .i64 0, .int .i64 3]) h0 (k78_mk W ⟨⟨#[97]⟩, 1, false, 0, 9⟩) (k78_mk W ⟨⟨#[98]⟩, 2, false, 0, 3⟩)
 have g1 := C_one k78 h1 (k78_mk W ⟨⟨#[97]⟩, 1, true, 0, 9⟩)
 have g2 := C_one (Kd.int .i64) (c := [.int .i64 0]) (x := 0) h2 rfl
 have g3 := C_one (Kd.slice 3 (Kd.int .i64)) (c := [.slice (some ⟨B + 2, 0, none⟩) 1 1]) (x := [0]) h3 ⟨_, 1, rfl, Nat.le_refl _, g2⟩
 have g4 := C_one (Kd.int .i64) (c := [.int .i64 0]) (x := 0) h4 rfl
 have g5 := C_one k75 h5 (k75_mk W ⟨[0], 0, 0⟩ (Nat.le_refl _) g4)
 have n0 : ∀ {α : Type} (d : Kd α), Kd.C d W none 0 [] := fun d => C_nil d W
 have g6 := C_two k49 (c := [.string ⟨#[116]⟩, .slice (some ⟨B, 0, none⟩) 2 2, .slice (some ⟨B + 3, 0, none⟩) 1 1, .slice none 0 0, .slice none 0 0]) (c2 := [.string ⟨#[117]⟩, .slice (some ⟨B + 1, 0, none⟩) 1 1, .slice none 0 0, .slice (some ⟨B + 5, 0, none⟩) 1 1, .slice none 0 0]) h6
  (k49_mk W ⟨⟨#[116]⟩, [⟨⟨#[97]⟩, 1, false, 0, 9⟩, ⟨⟨#[98]⟩, 2, false, 0, 3⟩], [[0]], [], []⟩ (Nat.le_refl _) g0 (Nat.le_refl _) g3 (Nat.le_refl _) (n0 _) (Nat.le_refl _) (n0 _))
  (k49_mk W ⟨⟨#[117]⟩, [⟨⟨#[97]⟩, 1, true, 0, 9⟩], [], [⟨[0], 0, 0⟩], []⟩ (Nat.le_refl _) g1 (Nat.le_refl _) (n0 _) (Nat.le_refl _) g5 (Nat.le_refl _) (n0 _))
 have g7 := C_two k64 (c := [.int .u8 1, .int .i64 1, .string ⟨#[]⟩]) (c2 := [.int .u8 0, .int .i64 0, .string ⟨#[]⟩]) h7 (k64_mk W ⟨1, 1, ⟨#[]⟩⟩) (k64_mk W ⟨0, 0, ⟨#[]⟩⟩)
 have g8 := C_one k64 h8 (k64_mk W ⟨1, 1, ⟨#[]⟩⟩)
 have g9 := C_one (Kd.slice 87 k64) (c := [.slice (some ⟨B + 7, 0, none⟩) 2 2]) (x := [⟨1, 1, ⟨#[]⟩⟩, ⟨0, 0, ⟨#[]⟩⟩]) h9 ⟨_, 2, rfl, Nat.le_refl _, g7⟩
 have g10 := C_one (Kd.slice 87 k64) (c := [.slice (some ⟨B + 8, 0, none⟩) 1 1]) (x := [⟨1, 1, ⟨#[]⟩⟩]) h10 ⟨_, 1, rfl, Nat.le_refl _, g8⟩
 have g11 := C_two (Kd.slice 89 (Kd.slice 87 k64)) (c := [.slice (some ⟨B + 9, 0, none⟩) 1 1]) (c2 := [.slice (some ⟨B + 10, 0, none⟩) 1 1]) (x := [[⟨1, 1, ⟨#[]⟩⟩, ⟨0, 0, ⟨#[]⟩⟩]]) (y := [[⟨1, 1, ⟨#[]⟩⟩]]) h11 ⟨_, 1, rfl, Nat.le_refl _, g9⟩ ⟨_, 1, rfl, Nat.le_refl _, g10⟩
 exact ⟨_, 2, _, 2, rfl, Nat.le_refl _, g6, Nat.le_refl _, g11, hb⟩
theorem aw1 : scheme_Valid.f 60 smallS = some true := by decide +kernel
theorem aw2 : dataP 60 smallS smallD = some true := by decide +kernel
theorem aw3 : scheme_Find.f 60 smallS ⟨#[117]⟩ = some (1, true) := by decide +kernel
theorem aw4 : deleteP 60 smallS smallD ⟨#[116]⟩ [true] = some ([], 77) := by decide +kernel
theorem aw5 : insertP 60 smallS smallD ⟨#[116]⟩ smallR = some (smallF, 0) := by decide +kernel
theorem aw6 : smallData smallD := by unfold smallData smallRows; decide +kernel
theorem aw7 : smallRows smallR := by unfold smallRows; decide +kernel
theorem aw8 : wfData smallD := by unfold wfData wfRows wfV; decide +kernel
theorem aw9 : wfRows smallR := by unfold wfRows wfV; decide +kernel
theorem R_fresh {α : Type} (d : Kd α) (e : Nat) (W : World) (base : Nat) {xs : List α} {inner : List Value} (hrep : Reps (d.M W base (fun _ => True)) d.sz xs inner) (hb : base ≤ W.heap.size) (hm : xs.length ≤ 9223372036854775807) :
  d.R e (W.alloc (.cells inner.toArray e)) base (fun _ => True) (.slice (some ⟨W.heap.size, 0, none⟩) xs.length xs.length) xs := by
 refine ⟨fun k hk => trivial, inner, ?_, ?_⟩
 ·have h2 := World.ownsRow_lit (base := base) (e := e) (size := d.sz) W inner.toArray xs.length hb (by simpa [maxLen] using hm) (by simpa using hrep.1)
  simpa using h2
 ·refine hrep.imp_ (fun p c hp => d.M_mono (fun k hk => ⟨trivial, fun he => ?_⟩) (Kd.M_below (d.M_bound hp) (below_alloc (Below.refl _ _) _)))
  have h3 : k = W.heap.size := by simpa [Value.ownBlock] using he
  have := hk.2.2.1
  omega
theorem lit_bool (W : World) : Kd.C Kd.bool (W.alloc (.cells #[.bool true] 4)) (some ⟨W.heap.size, 0, none⟩) 1 [true] :=
 (Kd.R_reads' (R_fresh Kd.bool 4 W W.heap.size (xs := [true]) (inner := [.bool true]) (Reps.one (show Kd.M Kd.bool _ _ _ true [.bool true] from rfl) (Reps.none _ _)) (Nat.le_refl _) (by simp))).2.2
def rowCells : Array Value := #[.int .u8 1, .int .i64 2, .string ⟨#[]⟩, .int .u8 2, .int .i64 0, .string ⟨#[120]⟩]
theorem lit_rows (W : World) : Kd.C (Kd.slice 87 k64) ((W.alloc (.cells rowCells 87)).alloc (.cells #[.slice (some ⟨W.heap.size, 0, none⟩) 2 2] 89)) (some ⟨W.heap.size + 1, 0, none⟩) 1 smallR := by
 have h1 := R_fresh k64 87 W W.heap.size (xs := [(⟨1, 2, ⟨#[]⟩⟩ : S64), ⟨2, 0, ⟨#[120]⟩⟩]) (inner := rowCells.toList) (Reps.c3 (show Kd.M k64 _ _ _ (⟨1, 2, (⟨#[]⟩ : ByteArray)⟩ : S64) [.int .u8 1, .int .i64 2, .string (⟨#[]⟩ : ByteArray)] from (k64_mkM _ _ _ (⟨1, 2, (⟨#[]⟩ : ByteArray)⟩ : S64) )) (Reps.c3 (show Kd.M k64 _ _ _ (⟨2, 0, (⟨#[120]⟩ : ByteArray)⟩ : S64) [.int .u8 2, .int .i64 0, .string (⟨#[120]⟩ : ByteArray)] from (k64_mkM _ _ _ (⟨2, 0, (⟨#[120]⟩ : ByteArray)⟩ : S64) )) (Reps.none _ _))) (Nat.le_refl _) (by simp)
 have h2 := R_fresh (Kd.slice 87 k64) 89 (W.alloc (.cells rowCells 87)) W.heap.size (xs := smallR) (inner := [.slice (some ⟨W.heap.size, 0, none⟩) 2 2]) (Reps.one (Kd.M_row h1) (Reps.none _ _)) (by simp) (by simp [smallR])
 have h3 := (Kd.R_reads' h2).2.2
 show Kd.C _ _ _ smallR.length smallR
 simpa using h3
set_option maxHeartbeats 4000000 in
set_option maxRecDepth 100000 in
theorem awake_walk (w : World) (hL : LaidL w) : Calls Tryz.prog 12 #[] w fun e w' => e = .returned (.bool true) ∧ Below w.heap.size w w' := by
 have HSM := Aside0.mk (small_walk w)
 have hls : smallS.length = 2 := rfl
 have hld : smallD.length = 2 := rfl
 have hlr : smallR.length = 1 := rfl
 have hlf : smallF.length = 2 := rfl
 have HFV : Aside0 (∀ (A : Option Addr) (c : Nat) (W : World), Below w.heap.size w W → 2 ≤ c → Kd.C k49 W A 2 smallS → Calls Tryz.prog 40 #[.slice A 2 c, .string ⟨#[117]⟩] W fun e w' => e = .returned (.tuple #[.int .i64 1, .bool true]) ∧ Below W.heap.size W w') := ⟨fun A c W hW hc hC => scheme_Find.calls 60 A c smallS ⟨#[117]⟩ 1 true W hC hc aw3 (LaidL.below ⟨hL⟩ hW)⟩
 have HVV : Aside0 (∀ (A : Option Addr) (c : Nat) (W : World), Below w.heap.size w W → 2 ≤ c → Kd.C k49 W A 2 smallS → Calls Tryz.prog 28 #[.slice A 2 c] W fun e w' => e = .returned (.bool true) ∧ Below W.heap.size W w') := ⟨fun A c W hW hc hC => scheme_Valid.calls 60 A c smallS true W hC hc aw1 (LaidL.below ⟨hL⟩ hW)⟩
 have HVD : Aside0 (∀ (A : Option Addr) (c : Nat) (A1 : Option Addr) (c1 : Nat) (W : World), Below w.heap.size w W → 2 ≤ c → Kd.C k49 W A 2 smallS → 2 ≤ c1 → Kd.C (Kd.slice 89 (Kd.slice 87 k64)) W A1 2 smallD → Calls Tryz.prog 29 #[.slice A 2 c, .slice A1 2 c1] W fun e w' => e = .returned (.bool true) ∧ Below W.heap.size W w') := ⟨fun A c A1 c1 W hW hc hC hc1 hC1 => validData_walk 60 A c smallS A1 c1 smallD true W hC hc hC1 hc1 aw8 (LaidL.below ⟨hL⟩ hW) aw2⟩
 have HDL : Aside0 (∀ (A : Option Addr) (c : Nat) (A1 : Option Addr) (c1 : Nat) (A3 : Option Addr) (c3 : Nat) (W : World), Below w.heap.size w W → 2 ≤ c → Kd.C k49 W A 2 smallS → 2 ≤ c1 → Kd.C (Kd.slice 89 (Kd.slice 87 k64)) W A1 2 smallD → 1 ≤ c3 → Kd.C Kd.bool W A3 1 [true] → Calls Tryz.prog 24 #[.slice A 2 c, .slice A1 2 c1, .string ⟨#[116]⟩, .slice A3 1 c3] W fun e w' => ∃ (A : Option Addr) (c : Nat), e = .returned (.tuple #[.slice A 0 c, .int .i64 77]) ∧ Below W.heap.size W w') := ⟨fun A c A1 c1 A3 c3 W hW hc hC hc1 hC1 hc3 hC3 => (delete_walk 60 A c smallS A1 c1 smallD ⟨#[116]⟩ A3 c3 [true] [] 77 W hC hc hC1 hc1 hC3 hc3 aw8 (fun _ => aw6) (LaidL.below ⟨hL⟩ hW) aw4).mono fun e w' ⟨A, c, he, _, _, hb⟩ => ⟨A, c, he, hb⟩⟩
 have HIN : Aside0 (∀ (A : Option Addr) (c : Nat) (A1 : Option Addr) (c1 : Nat) (A3 : Option Addr) (c3 : Nat) (W : World), Below w.heap.size w W → 2 ≤ c → Kd.C k49 W A 2 smallS → 2 ≤ c1 → Kd.C (Kd.slice 89 (Kd.slice 87 k64)) W A1 2 smallD → 1 ≤ c3 → Kd.C (Kd.slice 87 k64) W A3 1 smallR → Calls Tryz.prog 22 #[.slice A 2 c, .slice A1 2 c1, .string ⟨#[116]⟩, .slice A3 1 c3] W fun e w' => ∃ (ad : Addr) (c : Nat) (A0 : Option Addr) (c0 : Nat), e = .returned (.tuple #[.slice (some ad) 2 c, .int .i64 0]) ∧ (∀ W2, Below w'.heap.size w' W2 → W2.cell? ad = some (.slice A0 2 c0)) ∧ Below W.heap.size W w') := ⟨fun A c A1 c1 A3 c3 W hW hc hC hc1 hC1 hc3 hC3 => (insert_walk 60 A c smallS A1 c1 smallD ⟨#[116]⟩ A3 c3 smallR smallF 0 W hC hc hC1 hc1 hC3 hc3 aw8 aw9 (fun _ => aw6) (by decide) (fun _ _ _ _ => aw7) (LaidL.below ⟨hL⟩ hW) aw5).mono fun e w' ⟨A, c, he, hl, hC, hb⟩ => by
  obtain ⟨ad, A0, c0, hA, hx, _⟩ := at_L13 hC 0 (by decide) (by decide)
  subst hA
  have hx2 : w'.cell? ad = some (.slice A0 2 c0) := by rw [show (rd_L13 smallF 0).length = 2 from rfl] at hx; simpa [Addr.add] using hx
  exact ⟨ad, c, A0, c0, he, fun W2 h2 => (h2.cell (World.block_lt_of_cell? w' _ hx2)).trans hx2, hb⟩⟩
 clear hL
 go_enter Tryz.func12, Tryz.ntmps12
 go_wp2_with (first
  | (go_at_call 39; refine HSM.out.mono ?_; rintro e w1 ⟨A, c, A1, c1, rfl, hl, hC, hl1, hC1, hb1⟩; rw [hls] at hl hC ⊢; rw [hld] at hl1 hC1 ⊢; have HC := Aside0.mk hC; have HC1 := Aside0.mk hC1; have HB1 := Aside0.mk hb1; clear hC hC1 hb1)
  | (go_at_call 40; refine (HFV.out A c w1 HB1.out hl HC.out).mono ?_; rintro e w2 ⟨rfl, hb2⟩; have HB2 := Aside0.mk (below_step HB1.out hb2); have HC2 := Aside0.mk (Kd.C_below HC.out hb2); have HC12 := Aside0.mk (Kd.C_below HC1.out hb2); clear hb2)
  | (go_at_call 24; refine (HDL.out A c A1 c1 _ _ (w2.alloc _) (HB2.out.alloc HB2.out.size _) hl (Kd.C_alloc HC2.out _) hl1 (Kd.C_alloc HC12.out _) (Nat.le_refl _) (lit_bool w2)).mono ?_; rintro e w3 ⟨A5, c5, rfl, hb3⟩; have HB3 := Aside0.mk (below_step (HB2.out.alloc HB2.out.size _) hb3); have HC3 := Aside0.mk (Kd.C_below (Kd.C_alloc HC2.out _) hb3); have HC13 := Aside0.mk (Kd.C_below (Kd.C_alloc HC12.out _) hb3); clear hb3)
  | (go_at_call 22; refine (HIN.out A c A1 c1 _ _ _ ((HB3.out.alloc HB3.out.size _).alloc (Nat.le_trans HB3.out.size (by simp)) _) hl (Kd.C_alloc (Kd.C_alloc HC3.out _) _) hl1 (Kd.C_alloc (Kd.C_alloc HC13.out _) _) (Nat.le_refl _) (lit_rows w3)).mono ?_; rintro e w4 ⟨ad, c6, A7, c7, rfl, hx4, hb4⟩; have HB4 := Aside0.mk (below_step ((HB3.out.alloc HB3.out.size _).alloc (Nat.le_trans HB3.out.size (by simp)) _) hb4); have HC4 := Aside0.mk (Kd.C_below (Kd.C_alloc (Kd.C_alloc HC3.out _) _) hb4); have HC14 := Aside0.mk (Kd.C_below (Kd.C_alloc (Kd.C_alloc HC13.out _) _) hb4); have HX4 := Aside0.mk hx4; clear hb4 hx4)
  | (go_at_call 28; refine (HVV.out A c w4 HB4.out hl HC4.out).mono ?_; rintro e w5 ⟨rfl, hb5⟩)
  | (go_at_call 29; refine (HVD.out A c A1 c1 w5 (below_step HB4.out hb5) hl (Kd.C_below HC4.out hb5) hl1 (Kd.C_below HC14.out hb5)).mono ?_; rintro e w6 ⟨rfl, hb6⟩; have hcx := HX4.out w6 (below_step hb5 hb6)))
 go_ret
 exact ⟨rfl, below_step (below_step HB4.out hb5) hb6⟩
theorem rowsFit_errs (t : S49) : ∀ rows : Rows, rowsFitP t rows = true ↔ errsP t rows = 0
 | [] => by simp [rowsFitP, errsP]
 | x :: r => by
  rw [rowsFitP, errsP]
  by_cases h : fitsRowP t.f1 x = 0
  ·rw [if_pos h, if_pos h]; exact rowsFit_errs t r
  ·rw [if_neg h, if_neg h]; simp [h]
theorem errs_app (t : S49) : ∀ a b : Rows, errsP t (a ++ b) = 0 ↔ errsP t a = 0 ∧ errsP t b = 0
 | [], b => by simp [errsP]
 | x :: r, b => by
  rw [List.cons_append, errsP, errsP]
  by_cases h : fitsRowP t.f1 x = 0
  ·rw [if_pos h, if_pos h]; exact errs_app t r b
  ·rw [if_neg h, if_neg h]; simp [h]
def TabOk (s : List S49) (d : Data) (n : Nat) : Prop :=
 (rd_L13 d (n : Int)).length ≤ 1000 ∧ errsP (rd_T49 s (n : Int)) (rd_L13 d (n : Int)) = 0 ∧ ((rd_T49 s (n : Int)).f2.all fun k => KB k [] (rd_L13 d (n : Int))) = true ∧ (rd_T49 s (n : Int)).f3.all (refHB s d n) = true
theorem holds_iff (s : List S49) (d : Data) : ∀ (g i : Nat), holdsB s d g i = true ↔ ∀ j, i ≤ j → j < i + g → ((rd_T49 s (j : Int)).f2.all fun k => KB k [] (rd_L13 d (j : Int))) = true ∧ (rd_T49 s (j : Int)).f3.all (refHB s d j) = true
 | 0, i => by simp [holdsB]; intro j h1 h2; omega
 | g + 1, i => by
  rw [holdsB, Bool.and_eq_true, Bool.and_eq_true, holds_iff s d g (i + 1)]
  constructor
  ·rintro ⟨h1, h2, h3⟩ j a b
   by_cases e : j = i
   ·rw [e]; exact ⟨h1, h2⟩
   ·exact h3 j (by omega) (by omega)
  ·intro h
   have h0 := h i (Nat.le_refl _) (by omega)
   exact ⟨h0.1, h0.2, fun j a b => h j (by omega) (by omega)⟩
theorem fit_iff : ∀ (s : List S49) (d : Data), d.length = s.length → (dataFitP s d = true ↔ ∀ n : Nat, n < s.length → (rd_L13 d (n : Int)).length ≤ 1000 ∧ errsP (rd_T49 s (n : Int)) (rd_L13 d (n : Int)) = 0)
 | [], d, _ => by simp [dataFitP]
 | t :: s, [], h => by simp at h
 | t :: s, x :: d, h => by
  have ih := fit_iff s d (by simpa using h)
  have e0 : rd_T49 (t :: s) ((0 : Nat) : Int) = t ∧ rd_L13 (x :: d) ((0 : Nat) : Int) = x := ⟨rfl, rfl⟩
  have e1 : ∀ n : Nat, rd_T49 (t :: s) ((n + 1 : Nat) : Int) = rd_T49 s (n : Int) ∧ rd_L13 (x :: d) ((n + 1 : Nat) : Int) = rd_L13 d (n : Int) := fun n => ⟨by unfold rd_T49; simp, by unfold rd_L13; simp⟩
  rw [dataFitP]
  constructor
  ·intro g n hn
   split at g
   ·cases g
   rename_i q
   split at g
   ·rename_i q2
    cases n with
    | zero => rw [e0.1, e0.2]; exact ⟨by omega, (rowsFit_errs t x).1 q2⟩
    | succ n => rw [(e1 n).1, (e1 n).2]; exact ih.1 g n (by simpa using hn)
   ·cases g
  ·intro g
   have g0 := g 0 (by simp)
   rw [e0.1, e0.2] at g0
   rw [if_neg (by omega), if_pos ((rowsFit_errs t x).2 g0.2)]
   refine ih.2 fun n hn => ?_
   have := g (n + 1) (by simpa using hn)
   rw [(e1 n).1, (e1 n).2] at this
   exact this
theorem data_iff (s : List S49) (d : Data) : dataB s d = true ↔ validB s = true ∧ d.length = s.length ∧ ∀ n, n < s.length → TabOk s d n := by
 unfold dataB
 rw [Bool.and_eq_true, Bool.and_eq_true, Bool.and_eq_true, decide_eq_true_eq, holds_iff]
 constructor
 ·rintro ⟨h1, h2, h3, h4⟩
  refine ⟨h1, h2, fun n hn => ?_⟩
  obtain ⟨a, b⟩ := (fit_iff s d h2).1 h3 n hn
  obtain ⟨c, e⟩ := h4 n (by omega) (by omega)
  exact ⟨a, b, c, e⟩
 ·rintro ⟨h1, h2, h3⟩
  exact ⟨h1, h2, (fit_iff s d h2).2 fun n hn => ⟨(h3 n hn).1, (h3 n hn).2.1⟩, fun j _ hj => ⟨(h3 j (by omega)).2.2.1, (h3 j (by omega)).2.2.2⟩⟩
theorem RB_mono {cols key : List Int} {others others' rows : Rows} (h : RB cols key others rows = true) (hs : ∀ x ∈ others, x ∈ others') : RB cols key others' rows = true := by
 unfold RB at h ⊢
 rw [List.all_eq_true] at h ⊢
 intro x hx
 have := h x hx
 rw [Bool.or_eq_true] at this ⊢
 rcases this with q | q
 ·exact .inl q
 ·right
  rw [List.any_eq_true] at q ⊢
  obtain ⟨y, hy, e⟩ := q
  exact ⟨y, hs y hy, e⟩
theorem more_valid {s : List S49} {d : Data} (h : dataB s d = true) {n : Nat} (hn : n < s.length) {x : Rows} (hs : ∀ row ∈ rd_L13 d (n : Int), row ∈ x) (ht : TabOk s (d.set n x) n) : dataB s (d.set n x) = true := by
 obtain ⟨hv, hl, hT⟩ := (data_iff s d).1 h
 refine (data_iff s _).2 ⟨hv, by rw [List.length_set]; exact hl, fun m hm => ?_⟩
 by_cases e : m = n
 ·rw [e]; exact ht
 obtain ⟨g1, g2, g3, g4⟩ := hT m hm
 unfold TabOk
 rw [rd13_set (by omega), if_neg e]
 refine ⟨g1, g2, g3, ?_⟩
 rw [List.all_eq_true] at g4 ⊢
 intro r hr
 have h2 := g4 r hr
 obtain ⟨b1, b2⟩ := ref_before hv hm hr
 unfold refHB at h2 ⊢
 rw [rd13_set (by omega), if_neg e]
 have e1 := rd13_set (d := d) (n := n) (m := r.f1.toNat) (x := x) (by omega)
 rw [Int.toNat_of_nonneg b1] at e1
 rw [e1]
 split
 ·rename_i q
  refine RB_mono h2 (fun y hy => hs y ?_)
  rw [← q, Int.toNat_of_nonneg b1]; exact hy
 ·exact h2
theorem insAt_iff {s : List S49} {d : Data} (h : dataB s d = true) {n : Nat} (hn : n < s.length) (rows : Rows) : (dataB s (d.set n (rd_L13 d (n : Int) ++ rows)) = true → insAtB s d n rows = (d.set n (rd_L13 d (n : Int) ++ rows), 0)) ∧
  (¬ dataB s (d.set n (rd_L13 d (n : Int) ++ rows)) = true → (insAtB s d n rows).1 = [] ∧ (insAtB s d n rows).2 ≠ 0) := by
 obtain ⟨hv, hl, hT⟩ := (data_iff s d).1 h
 have h0 := hT n hn
 constructor
 ·intro g
  obtain ⟨g1, g2, g3, g4⟩ := ((data_iff s _).1 g).2.2 n hn
  rw [rd13_set (by omega), if_pos rfl] at g1 g2 g3
  unfold insAtB
  rw [if_pos ((errs_app _ _ _).1 g2).2, if_neg (by rw [List.length_append] at g1; omega), if_pos g3, if_pos g4]
 ·intro g
  unfold insAtB
  split
  ·rename_i q1
   split
   ·exact ⟨rfl, by simp⟩
   ·rename_i q2
    split
    ·rename_i q3
     split
     ·rename_i q4
      refine absurd (more_valid h hn (fun row hr => List.mem_append_left _ hr) ?_) g
      unfold TabOk
      rw [rd13_set (by omega), if_pos rfl]
      exact ⟨by rw [List.length_append]; omega, (errs_app _ _ _).2 ⟨h0.2.1, q1⟩, q3, q4⟩
     ·exact ⟨rfl, by simp⟩
    ·exact ⟨rfl, by simp⟩
  ·rename_i q; exact ⟨rfl, q⟩
theorem insB_at {s : List S49} {d : Data} (nm : ByteArray) (rows : Rows) (h : dataB s d = true) {n : Nat} (hf : findB s nm = ((n : Int), true)) : insB s d nm rows = insAtB s d n rows := by
 unfold insB
 rw [if_pos h, hf, if_pos rfl]
 simp
theorem insB_not {s : List S49} {d : Data} (nm : ByteArray) (rows : Rows) (h : ¬ (dataB s d = true ∧ (findB s nm).2 = true)) : (insB s d nm rows).1 = [] ∧ (insB s d nm rows).2 ≠ 0 := by
 unfold insB
 by_cases q : dataB s d = true
 ·rw [if_pos q, if_neg (fun e => h ⟨q, e⟩)]; exact ⟨rfl, by simp⟩
 ·rw [if_neg q]; exact ⟨rfl, by simp⟩
end Go.Proofs.YthgfdnffnbclpaaGreatDoor.PAll
