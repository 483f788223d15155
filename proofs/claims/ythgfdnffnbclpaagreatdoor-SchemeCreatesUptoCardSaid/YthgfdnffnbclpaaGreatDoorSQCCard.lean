/- SchemeCreates, by size (what the law reads is of bulk at most 1048576): scheme and data with one more table, or the error, are what the document's reference says: the law returns true for any scheme, data and command of that bulk. No condition but that the package-level variables that it lists hold what the program's own text gives them. -/
import Derived.Test.YthgfdnffnbclpaaGreatDoorSQC18
import Derived.Test.YthgfdnffnbclpaaGreatDoorSQC27
import Derived.Test.YthgfdnffnbclpaaGreatDoorSQC28
set_option linter.unusedVariables false
set_option linter.unusedSimpArgs false
namespace Go.Proofs.YthgfdnffnbclpaaGreatDoor.PAll
open Go.RowKit Go.Proofs.YthgfdnffnbclpaaGreatDoorW.PrintWords Go.Proofs.YthgfdnffnbclpaaGreatDoorW.PrintLast Go.Proofs.YthgfdnffnbclpaaGreatDoorW.PrintMore Go.Proofs.YthgfdnffnbclpaaGreatDoor
theorem creates_walk (A0 : Option Addr) (c0 : Nat) (s : List S49) (A1 : Option Addr) (c1 : Nat) (d : Data) (kd : Int) (Q : Option Addr) (qn qc : Nat) (nm cn : ByteArray) (A3 : Option Addr) (c3 : Nat) (defs : List S109) (A4 : Option Addr) (c4 : Nat) (keys : List (List ByteArray)) (A5 : Option Addr) (c5 : Nat) (refs : List S105) (R : Option Addr) (rn rc : Nat) (H : Option Addr) (hn hc : Nat) (w : World)
  (hS : Kd.C k49 w A0 s.length s) (hc0 : s.length ≤ c0) (hD : Kd.C (Kd.slice 89 (Kd.slice 87 k64)) w A1 d.length d) (hc1 : d.length ≤ c1)
  (h3 : Kd.C k109 w A3 defs.length defs) (hc3 : defs.length ≤ c3) (h4 : Kd.C (Kd.slice 9 Kd.string) w A4 keys.length keys) (hc4 : keys.length ≤ c4) (h5 : Kd.C k105 w A5 refs.length refs) (hc5 : refs.length ≤ c5)
  (hs : ∀ t ∈ s, okT t) (hd : ∀ rows ∈ d, rows.length ≤ maxLen ∧ ∀ row ∈ rows, zjC row) (hL : LaidL w)
  (hb3 : defs.length ≤ 2000000) (hz3 : ∀ x ∈ defs, x.f0.size ≤ 9223372036854775807) (hb4 : ∀ l ∈ keys, l.length ≤ 2000000)
  (hb5 : ∀ r ∈ refs, r.f0.length ≤ 2000000 ∧ r.f2.length ≤ 2000000 ∧ (∀ x ∈ r.f0, x.size ≤ 9223372036854775807) ∧ (∀ x ∈ r.f2, x.size ≤ 9223372036854775807)) :
  Calls Tryz.prog 5 #[.slice A0 s.length c0, .slice A1 d.length c1, .agg #[.int .u8 kd, .slice Q qn qc, .string nm, .string cn, .slice A3 defs.length c3, .slice A4 keys.length c4, .slice A5 refs.length c5, .slice R rn rc, .slice H hn hc]] w fun e w' => e = .returned (.bool true) ∧ Below w.heap.size w w' := by
 have hw : ∀ t ∈ s, wfT t := fun t ht => zlb (hs t ht)
 obtain ⟨K2, h2⟩ := zkV s hw d
 exact zgv K2 A0 c0 s A1 c1 d kd Q qn qc nm cn A3 c3 defs A4 c4 keys A5 c5 refs R rn rc H hn hc (zfe s d) w hS hc0 hD hc1 h3 hc3 h4 hc4 h5 hc5 (zif hd) (h2 _ (Nat.le_refl _)) (zhZ s d)
  (fun h => by rw [zdW, (dataB_facts h).1])
  (fun h => ⟨small_of h, smallS_of (dataB_facts h).1, (validB_at (dataB_facts h).1).1, fun t ht => by
   obtain ⟨n, hn, rfl⟩ := List.getElem_of_mem ht
   have := (validB_at (dataB_facts h).1).2 n hn
   rw [zdK hn] at this
   exact (zaZ this).1⟩) hL hb3 hz3 hb4 hb5
end Go.Proofs.YthgfdnffnbclpaaGreatDoor.PAll
namespace Go.Proofs.YthgfdnffnbclpaaGreatDoor
open Go.ChangeShapes Go.WideShapes Go.ChangeAt Go.Deep Go.RowKit
open Go.Proofs.YthgfdnffnbclpaaGreatDoorW.PrintWords Go.Proofs.YthgfdnffnbclpaaGreatDoorW.PrintLast Go.Proofs.YthgfdnffnbclpaaGreatDoorW.PrintMore Go.Proofs.YthgfdnffnbclpaaGreatDoor.PAll
section
variable {H : Type} {enc : TypeId × Value → H} {w : World}
theorem zlg : OpB enc w k109 109 (fun x _ => x.f0.size ≤ maxLen) := fun n cs y h => by
 have hl : cs.length = 6 := (zcf Tryz.underlying109 h).trans (by kernel_rfl)
 have hf := zbE Tryz.underlying109 (by kernel_rfl) h (by rw [hl]; rfl)
 obtain ⟨v0, m0, z0, c0, t0, b0⟩ := hf 0 _ rfl
 obtain ⟨v1, m1, z1, c1, t1, b1⟩ := hf 1 _ rfl
 obtain ⟨v2, m2, z2, c2, t2, b2⟩ := hf 2 _ rfl
 obtain ⟨v3, m3, z3, c3, t3, b3⟩ := hf 3 _ rfl
 obtain ⟨v4, m4, z4, c4, t4, b4⟩ := hf 4 _ rfl
 obtain ⟨v5, m5, z5, c5, t5, b5⟩ := hf 5 _ rfl
 obtain ⟨x0, e0, _, g0⟩ := DataW.trod_string (t := 9) Tryz.underlying9 t0
 obtain ⟨x1, e1, _, g1⟩ := DataW.trod_int (t := 107) Tryz.underlying107 t1
 obtain ⟨x2, e2, _⟩ := DataW.trod_bool (t := 4) Tryz.underlying4 t2
 obtain ⟨x3, e3, _, g3⟩ := DataW.trod_int (t := 2) Tryz.underlying2 t3
 obtain ⟨x4, e4, _, g4⟩ := DataW.trod_int (t := 2) Tryz.underlying2 t4
 obtain ⟨x5, e5, _⟩ := DataW.trod_bool (t := 4) Tryz.underlying4 t5
 match cs, hl, c0, c1, c2, c3, c4, c5 with
 | [a, b, c, d, e, f], _, c0, c1, c2, c3, c4, c5 =>
  simp at c0 c1 c2 c3 c4 c5 e0 e1 e2 e3 e4 e5
  subst c0 c1 c2 c3 c4 c5 e0 e1 e2 e3 e4 e5
  exact ⟨⟨x0, x1, x2, x3, x4, x5⟩, zkC w _, g0⟩
theorem zeT : OpB enc w (Kd.slice 9 Kd.string) 103 (fun l b => l.length ≤ b ∧ ∀ x ∈ l, x.size ≤ maxLen) := (zaV (t := 103) (e := 9) Tryz.underlying103 (by kernel_rfl) (zg4 (zhL Tryz.underlying9)) (fun _ _ _ _ h => h)).mono (fun x b h => ⟨h.2.1, h.2.2⟩)
theorem zlm : OpB enc w k105 105 (fun r b => r.f0.length ≤ b ∧ r.f2.length ≤ b ∧ (∀ x ∈ r.f0, x.size ≤ maxLen) ∧ ∀ x ∈ r.f2, x.size ≤ maxLen) := fun n cs y h => by
 have hl : cs.length = 3 := (zcf Tryz.underlying105 h).trans (by kernel_rfl)
 have hf := zbE Tryz.underlying105 (by kernel_rfl) h (by rw [hl]; rfl)
 obtain ⟨v0, m0, z0, c0, t0, b0⟩ := hf 0 _ rfl
 obtain ⟨v1, m1, z1, c1, t1, b1⟩ := hf 1 _ rfl
 obtain ⟨v2, m2, z2, c2, t2, b2⟩ := hf 2 _ rfl
 obtain ⟨x0, ⟨A0, k0, e0, l0, g0⟩, o0, p0⟩ := zeT _ _ _ t0
 obtain ⟨x1, e1, _, g1⟩ := DataW.trod_string (t := 9) Tryz.underlying9 t1
 obtain ⟨x2, ⟨A2, k2, e2, l2, g2⟩, o2, p2⟩ := zeT _ _ _ t2
 match cs, hl, c0, c1, c2 with
 | [a, b, c], _, c0, c1, c2 =>
  simp at c0 c1 c2 e0 e1 e2
  subst c0 c1 c2 e0 e1 e2
  refine ⟨⟨x0, x1, x2⟩, zkX w _ l0 g0 l2 g2, ?_, ?_, p0, p2⟩
  ·show x0.length ≤ _; omega
  ·show x2.length ≤ _; omega
theorem zdX {t e : TypeId} (ht : Tryz.prog.underlying t = some (.slice e)) {n : Nat} {u : Value} {y : DataW H × List MemPlace} (h : DataW.trod enc Tryz.prog w 0 (fun _ => true) true n t [u] = some y) : ∃ (A : Option Addr) (m c : Nat), u = .slice A m c := by
 rcases open_slice ht h with ⟨hcs, _⟩ | ⟨a, len, cap, m, n', D, Pl, hcs, _⟩
 ·exact ⟨none, 0, 0, by simpa using hcs⟩
 ·exact ⟨some a, len, cap, by simpa using hcs⟩
set_option maxRecDepth 100000 in
theorem zfF {v : Value} {x : DataW H} {p : List MemPlace} {base : Nat} (hv : Value.okWide Tryz.prog w .any base 44 v) (h : DataW.Trod enc Tryz.prog w 0 (fun _ => true) true 44 v x p) :
  ∃ (kd : Int) (Q : Option Addr) (qn qc : Nat) (nm cn : ByteArray) (A3 : Option Addr) (c3 : Nat) (defs : List S109) (A4 : Option Addr) (c4 : Nat) (keys : List (List ByteArray)) (A5 : Option Addr) (c5 : Nat) (refs : List S105) (R : Option Addr) (rn rc : Nat) (Hh : Option Addr) (hn hc : Nat),
   v = .agg #[.int .u8 kd, .slice Q qn qc, .string nm, .string cn, .slice A3 defs.length c3, .slice A4 keys.length c4, .slice A5 refs.length c5, .slice R rn rc, .slice Hh hn hc] ∧
   (k109.C w A3 defs.length defs ∧ defs.length ≤ c3 ∧ (Kd.slice 9 Kd.string).C w A4 keys.length keys ∧ keys.length ≤ c4 ∧ k105.C w A5 refs.length refs ∧ refs.length ≤ c5) ∧
   (∀ z ∈ defs, z.f0.size ≤ maxLen) ∧ (∀ r ∈ refs, (∀ z ∈ r.f0, z.size ≤ maxLen) ∧ ∀ z ∈ r.f2, z.size ≤ maxLen) ∧
   (Rows.uptoBulk x ≤ 1048576 → defs.length ≤ 1048576 ∧ (∀ l ∈ keys, l.length ≤ 1048576) ∧ ∀ r ∈ refs, r.f0.length ≤ 1048576 ∧ r.f2.length ≤ 1048576) := by
 obtain ⟨cs, rfl, hsz⟩ := okWide_struct Tryz.underlying44 hv
 obtain ⟨l⟩ := cs
 have hC : Tryz.prog.cellsOf 44 = 9 := by kernel_rfl
 match l, hsz.trans hC with
 | [u0, u1, u2, u3, u4, u5, u6, u7, u8], _ =>
  obtain ⟨fuel, hf0⟩ := h
  have hf9 : DataW.trod enc Tryz.prog w 0 (fun _ => true) true fuel 44 [u0, u1, u2, u3, u4, u5, u6, u7, u8] = some (x, p) := hf0
  have hf := zbE Tryz.underlying44 (by kernel_rfl) hf9 rfl
  obtain ⟨v0, m0, z0, k0, t0, b0⟩ := hf 0 _ rfl
  obtain ⟨v1, m1, z1, k1, t1, b1⟩ := hf 1 _ rfl
  obtain ⟨v2, m2, z2, k2, t2, b2⟩ := hf 2 _ rfl
  obtain ⟨v3, m3, z3, k3, t3, b3⟩ := hf 3 _ rfl
  obtain ⟨v4, m4, z4, k4, t4, b4⟩ := hf 4 _ rfl
  obtain ⟨v5, m5, z5, k5, t5, b5⟩ := hf 5 _ rfl
  obtain ⟨v6, m6, z6, k6, t6, b6⟩ := hf 6 _ rfl
  obtain ⟨v7, m7, z7, k7, t7, b7⟩ := hf 7 _ rfl
  obtain ⟨v8, m8, z8, k8, t8, b8⟩ := hf 8 _ rfl
  cases k0; cases k1; cases k2; cases k3; cases k4; cases k5; cases k6; cases k7; cases k8
  obtain ⟨kd, e0, _, _⟩ := DataW.trod_int (k := .u8) (by kernel_rfl) t0
  obtain ⟨Q, qn, qc, rfl⟩ := zdX Tryz.underlying37 t1
  obtain ⟨nm, e2, _, _⟩ := DataW.trod_string (t := 9) Tryz.underlying9 t2
  obtain ⟨cn, e3, _, _⟩ := DataW.trod_string (t := 9) Tryz.underlying9 t3
  obtain ⟨defs, ⟨A3, c3, e4, l4, g4⟩, _, o4, q4⟩ := zaV (t := 38) (e := 109) Tryz.underlying38 (by kernel_rfl) zlg (fun _ _ _ _ h => h) _ _ _ t4
  obtain ⟨keys, ⟨A4, c4, e5, l5, g5⟩, _, o5, q5⟩ := zaV (t := 39) (e := 103) Tryz.underlying39 (by kernel_rfl) zeT (fun _ _ _ h q => ⟨Nat.le_trans q.1 h, q.2⟩) _ _ _ t5
  obtain ⟨refs, ⟨A5, c5, e6, l6, g6⟩, _, o6, q6⟩ := zaV (t := 40) (e := 105) Tryz.underlying40 (by kernel_rfl) zlm (fun _ _ _ h q => ⟨Nat.le_trans q.1 h, Nat.le_trans q.2.1 h, q.2.2⟩) _ _ _ t6
  obtain ⟨R, rn, rc, rfl⟩ := zdX Tryz.underlying41 t7
  obtain ⟨Hh, hn, hc, rfl⟩ := zdX Tryz.underlying42 t8
  simp only [List.cons.injEq, and_true] at e0 e2 e3 e4 e5 e6
  subst e0 e2 e3 e4 e5 e6
  replace b4 : Rows.uptoBulk z4.1 ≤ Rows.uptoBulk x := b4
  replace b5 : Rows.uptoBulk z5.1 ≤ Rows.uptoBulk x := b5
  replace b6 : Rows.uptoBulk z6.1 ≤ Rows.uptoBulk x := b6
  exact ⟨kd, Q, qn, qc, nm, cn, A3, c3, defs, A4, c4, keys, A5, c5, refs, R, rn, rc, Hh, hn, hc, rfl, ⟨g4, l4, g5, l5, g6, l6⟩, q4, fun r hr => (q6 r hr).2.2,
   fun hb => ⟨by omega, fun l hl => by have := (q5 l hl).1; omega, fun r hr => ⟨by have := (q6 r hr).1; omega, by have := (q6 r hr).2.1; omega⟩⟩⟩
end
end Go.Proofs.YthgfdnffnbclpaaGreatDoor
namespace Go.Proofs.YthgfdnffnbclpaaGreatDoor.schemeCreates
open Go.ChangeShapes Go.WideShapes Go.ChangeAt Go.RowKit
open Go.ChangeMaps (open_string shut_string)
set_option maxRecDepth 100000 in
theorem lifted (os : Os) (started : os.Started) (H : Type) (enc : TypeId × Value → H) (F : Stop.Interp) :
  ReturnsInHanded {} Tryz.checked os 5 .any (fun w args => ((Rows.OpenSpec.upto Rows.schemeCreatesSpec).pre enc Tryz.prog Tryz.f5 [] false w args ∧ laidMetH Tryz.prog lst w) ∧ sizedMet enc Tryz.prog Tryz.f5 (Rows.OpenSpec.upto Rows.schemeCreatesSpec) false w args)
   (((Rows.OpenSpec.upto Rows.schemeCreatesSpec).at F).post enc Tryz.prog Tryz.f5 false true false false) := by
 refine zbl (C := Tryz.checked) (s := Rows.OpenSpec.upto Rows.schemeCreatesSpec) (k := Rows.uptoSmall) rfl (X := fun w _ => laidMetH Tryz.prog lst w) (fun _ _ _ hh h => h.of_heap hh) own started (by kernel_rfl) Tryz.func5
  (OpenSpec.witness_all (enc := enc) (C := Tryz.checked) (os := os) (s := Rows.OpenSpec.upto Rows.schemeCreatesSpec) (k := Rows.uptoSmall) rfl (X := fun w _ => laidMetH Tryz.prog lst w) false (World.laidAll Tryz.prog os lst) #[.slice none 0 0, .slice none 0 0, .agg #[.int .u8 0, .slice none 0 0, .string ⟨#[]⟩, .string ⟨#[]⟩, .slice none 0 0, .slice none 0 0, .slice none 0 0, .slice none 0 0, .slice none 0 0]] 8 (World.laidAll_os _ _ _)
   (World.shaped_of_ZipB (by kernel_rfl) (by kernel_rfl)) (by kernel_rfl) (x := ([.nil, .nil, .agg [.lit (.int .u8 0), .nil, .lit (.string []), .lit (.string []), .nil, .nil, .nil, .nil, .nil]], [], [])) (by kernel_rfl) (by kernel_rfl) (by kernel_rfl) (by kernel_rfl)
   (by rw [MakeChecks.laidMetH_plain _ _ _ (by kernel_rfl)]; exact laidMet_laidAll _ (by kernel_rfl) (by kernel_rfl))) ?_
 intro W base args ds gs before hval0 hW hcnd hk hL hsh _
 have hLV := zjN hL
 clear hL hsh
 have hval : ∀ (j : Nat) t v, Tryz.f5.params[j]? = some t → args[j]? = some v → Value.okWide Tryz.prog W .any base t v := hval0
 have hW' := hW
 obtain ⟨p, q, hA0, hV, rfl, hfz, hnd⟩ := hW
 have hA : DataW.TrodAll enc Tryz.prog W 0 (fun _ => true) true Tryz.f5.params.toList args.toList ds p := hA0
 rw [Tryz.params5] at hA hval
 obtain ⟨v0, vs0, d0, ds0, p0, q0, hargs, rfl, rfl, h0, r0⟩ := trodAll_cons hA
 obtain ⟨v1, vs1, d1, ds1, p1, q1, rfl, rfl, rfl, h1, r1⟩ := trodAll_cons r0
 obtain ⟨v2, vs2, d2, ds2, p2, q2, rfl, rfl, rfl, h2, r2⟩ := trodAll_cons r1
 obtain ⟨rfl, rfl, rfl⟩ := trodAll_nil r2
 obtain rfl : args = #[v0, v1, v2] := by cases args; simp_all
 obtain ⟨rfl, rfl⟩ := trodVars_none hV
 have k0 := h0
 have k1 := h1
 have k2 := h2
 obtain ⟨A0, c0, s, rfl, hc0, hS, hs, hss⟩ := zgb (hval 0 23 v0 rfl rfl) h0
 obtain ⟨A1, c1, d, rfl, hc1, hD, hd, hsd⟩ := zhD (hval 1 25 v1 rfl rfl) h1
 obtain ⟨kd, Q, qn, qc, nm, cn, A3, c3, defs, A4, c4, keys, A5, c5, refs, R, rn, rc, Hh, hn, hc, rfl, ⟨g3, l3, g4, l4, g5, l5⟩, z3, z5, hbk⟩ := zfF (hval 2 44 v2 rfl rfl) h2
 have hb2 : Rows.uptoBulk d2 ≤ 1048576 := by
  have h : Rows.uptoBulkAll ([d0, d1, d2] ++ ([] : List (DataW H))) ≤ 1048576 := of_decide_eq_true hk
  simp only [List.append_nil, Rows.uptoBulkAll] at h
  omega
 obtain ⟨y3, y4, y5⟩ := hbk hb2
 have em : maxLen = 9223372036854775807 := by decide
 rw [em] at z3 z5
 clear hA0 hval0 hk
 refine (PAll.creates_walk A0 c0 s A1 c1 d kd Q qn qc nm cn A3 c3 defs A4 c4 keys A5 c5 refs R rn rc Hh hn hc W hS hc0 hD hc1 g3 l3 g4 l4 g5 l5 hs hd hLV (by omega) z3 (fun l hl => by have := y4 l hl; omega) (fun r hr => ⟨by have := (y5 r hr).1; omega, by have := (y5 r hr).2; omega, (z5 r hr).1, (z5 r hr).2⟩)).mono fun e W' ⟨he, bel⟩ => ?_
 subst he
 exact ⟨_, rfl, _, _, _, [], _, [], hW', trodAll_mk1 (shut_bool Tryz.underlying4 _), (trodAll_cons_mk (Below.trod zgm (by kernel_rfl) (of_decide_eq_true (by kernel_rfl)) k0 bel (fun x hx => by simpa using hW'.lt x (by simp [hx])))
  (trodAll_cons_mk (Below.trod zgm (by kernel_rfl) (of_decide_eq_true (by kernel_rfl)) k1 bel (fun x hx => by simpa using hW'.lt x (by simp [hx])))
  (trodAll_cons_mk (Below.trod zgm (by kernel_rfl) (of_decide_eq_true (by kernel_rfl)) k2 bel (fun x hx => by simpa using hW'.lt x (by simp [hx]))) trodAll_mk0))), rfl, bel.frame _, fun h => by cases h⟩
theorem over : Rows.schemeCreatesUptoRow.holds Tryz.pinned (Rows.OpenSpec.upto Rows.schemeCreatesSpec) :=
 OpenClaim.holds_of_cond 5 Tryz.f5 rfl rfl rfl rfl rfl rfl rfl ⟨rfl, rfl, rfl, rfl, rfl⟩ rfl rfl rfl rfl rfl (by kernel_rfl) Tryz.func5 (by kernel_rfl)
  (of_decide_eq_true (by kernel_rfl)) (by unfold Func.isWrapper; first | (rw [if_pos (by decide +kernel)]; kernel_rfl) | (rw [if_neg (by decide +kernel)]; exact ⟨rfl, rfl⟩))
  (fun os started H enc _ F => lifted os started H enc F)
theorem card_holds : Rows.SchemeCreatesUptoCardSaid :=
 Claim7.holds_tied_plain_at .later [] _ _ _ _ over (fun _ h => by cases h) (by kernel_rfl) (fun _ h => by cases h) schemeCreatesUpto_row_tie rfl ⟨rfl, rfl⟩ (by kernel_rfl) rfl
  (fun f fn hf hfn => by
   obtain rfl : f = 5 := Option.some.inj ((show Tryz.prog.funcNamed "jointer/jointerlaw07.SchemeCreates" = some 5 by kernel_rfl).symm.trans hf) |>.symm
   obtain rfl : fn = Tryz.f5 := (Option.some.inj (Tryz.func5.symm.trans hfn)).symm
   exact ⟨by kernel_rfl, fun j t ht => by
    rw [Tryz.params5] at ht
    have hm : t ∈ [23, 25, 44] := by
     have := Array.mem_of_getElem? ht
     simpa using this
    have hall : ([23, 25, 44].all fun u => !Tryz.prog.wantsStandIn u) = true := by kernel_rfl
    exact (show Tryz.prog.wantsStandIn t = false by simpa using List.all_eq_true.1 hall t hm)⟩)
  (by kernel_rfl)
#print axioms card_holds
end Go.Proofs.YthgfdnffnbclpaaGreatDoor.schemeCreates
namespace Go.Proofs.YthgfdnffnbclpaaGreatDoor
theorem schemeCreates_card : Rows.SchemeCreatesUptoCardSaid := schemeCreates.card_holds
end Go.Proofs.YthgfdnffnbclpaaGreatDoor
