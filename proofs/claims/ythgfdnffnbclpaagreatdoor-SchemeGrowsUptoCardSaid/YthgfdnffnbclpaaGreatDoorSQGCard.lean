/- SchemeGrows, by size (what the law reads is of bulk at most 1048576): from no tables on, whatever acts are tried one after another, the scheme and the data stay valid, and no act but a creation answers that it was given something invalid. No condition but that the package-level variables that it lists hold what the program's own text gives them. -/
import Derived.Test.YthgfdnffnbclpaaGreatDoorSQG19
import Derived.Test.YthgfdnffnbclpaaGreatDoorSQG25
set_option linter.unusedVariables false
set_option linter.unusedSimpArgs false
namespace Go.Proofs.YthgfdnffnbclpaaGreatDoor
open Go.ChangeShapes Go.WideShapes Go.ChangeAt Go.Deep Go.RowKit
open Go.Proofs.YthgfdnffnbclpaaGreatDoorW.PrintWords Go.Proofs.YthgfdnffnbclpaaGreatDoorW.PrintLast Go.Proofs.YthgfdnffnbclpaaGreatDoorW.PrintMore Go.Proofs.YthgfdnffnbclpaaGreatDoor.PAll
section
variable {H : Type} {enc : TypeId × Value → H} {w : World}
theorem opb109 : OpB enc w k109 109 (fun x _ => x.f0.size ≤ maxLen) := fun n cs y h => by
 have hl : cs.length = 6 := (trod_len Tryz.underlying109 h).trans (by kernel_rfl)
 have hf := opb_fields Tryz.underlying109 (by kernel_rfl) h (by rw [hl]; rfl)
 obtain ⟨v0, m0, z0, c0, t0, b0⟩ := hf 0 _ rfl
 obtain ⟨v1, m1, z1, c1, t1, b1⟩ := hf 1 _ rfl
 obtain ⟨v2, m2, z2, c2, t2, b2⟩ := hf 2 _ rfl
 obtain ⟨v3, m3, z3, c3, t3, b3⟩ := hf 3 _ rfl
 obtain ⟨v4, m4, z4, c4, t4, b4⟩ := hf 4 _ rfl
 obtain ⟨v5, m5, z5, c5, t5, b5⟩ := hf 5 _ rfl
 obtain ⟨x0, e0, _, g0⟩ := DataW.trod_string (t := 9) Tryz.underlying9 t0
 obtain ⟨x1, e1, _, g1⟩ := DataW.trod_int (t := 107) Tryz.underlying107 t1
 obtain ⟨x2, e2, _⟩ := DataW.trod_bool (t := 4) Tryz.underlying4 t2
 obtain ⟨x3, e3, _, g3⟩ := DataW.trod_int (t := 2) Tryz.underlying2 t3
 obtain ⟨x4, e4, _, g4⟩ := DataW.trod_int (t := 2) Tryz.underlying2 t4
 obtain ⟨x5, e5, _⟩ := DataW.trod_bool (t := 4) Tryz.underlying4 t5
 match cs, hl, c0, c1, c2, c3, c4, c5 with
 | [a, b, c, d, e, f], _, c0, c1, c2, c3, c4, c5 =>
  simp at c0 c1 c2 c3 c4 c5 e0 e1 e2 e3 e4 e5
  subst c0 c1 c2 c3 c4 c5 e0 e1 e2 e3 e4 e5
  exact ⟨⟨x0, x1, x2, x3, x4, x5⟩, k109_mk w _, g0⟩
theorem opbNames : OpB enc w (Kd.slice 9 Kd.string) 103 (fun l b => l.length ≤ b ∧ ∀ x ∈ l, x.size ≤ maxLen) := (opb_slice (t := 103) (e := 9) Tryz.underlying103 (by kernel_rfl) (opb_of (opk_string Tryz.underlying9)) (fun _ _ _ _ h => h)).mono (fun x b h => ⟨h.2.1, h.2.2⟩)
theorem opb105 : OpB enc w k105 105 (fun r b => r.f0.length ≤ b ∧ r.f2.length ≤ b ∧ (∀ x ∈ r.f0, x.size ≤ maxLen) ∧ ∀ x ∈ r.f2, x.size ≤ maxLen) := fun n cs y h => by
 have hl : cs.length = 3 := (trod_len Tryz.underlying105 h).trans (by kernel_rfl)
 have hf := opb_fields Tryz.underlying105 (by kernel_rfl) h (by rw [hl]; rfl)
 obtain ⟨v0, m0, z0, c0, t0, b0⟩ := hf 0 _ rfl
 obtain ⟨v1, m1, z1, c1, t1, b1⟩ := hf 1 _ rfl
 obtain ⟨v2, m2, z2, c2, t2, b2⟩ := hf 2 _ rfl
 obtain ⟨x0, ⟨A0, k0, e0, l0, g0⟩, o0, p0⟩ := opbNames _ _ _ t0
 obtain ⟨x1, e1, _, g1⟩ := DataW.trod_string (t := 9) Tryz.underlying9 t1
 obtain ⟨x2, ⟨A2, k2, e2, l2, g2⟩, o2, p2⟩ := opbNames _ _ _ t2
 match cs, hl, c0, c1, c2 with
 | [a, b, c], _, c0, c1, c2 =>
  simp at c0 c1 c2 e0 e1 e2
  subst c0 c1 c2 e0 e1 e2
  refine ⟨⟨x0, x1, x2⟩, k105_mk w _ l0 g0 l2 g2, ?_, ?_, p0, p2⟩
  ·show x0.length ≤ _; omega
  ·show x2.length ≤ _; omega
theorem any_slice {t e : TypeId} (ht : Tryz.prog.underlying t = some (.slice e)) {n : Nat} {u : Value} {y : DataW H × List MemPlace} (h : DataW.trod enc Tryz.prog w 0 (fun _ => true) true n t [u] = some y) : ∃ (A : Option Addr) (m c : Nat), u = .slice A m c := by
 rcases open_slice ht h with ⟨hcs, _⟩ | ⟨a, len, cap, m, n', D, Pl, hcs, _⟩
 ·exact ⟨none, 0, 0, by simpa using hcs⟩
 ·exact ⟨some a, len, cap, by simpa using hcs⟩
def okB61 (x : S61) (b : Nat) : Prop := (0 ≤ x.k ∧ x.k ≤ 255) ∧ x.defs.length ≤ b ∧ (∀ z ∈ x.defs, z.f0.size ≤ maxLen) ∧ (∀ l ∈ x.keys, l.length ≤ b) ∧
 (∀ r ∈ x.refs, r.f0.length ≤ b ∧ r.f2.length ≤ b ∧ (∀ z ∈ r.f0, z.size ≤ maxLen) ∧ ∀ z ∈ r.f2, z.size ≤ maxLen) ∧ x.rows.length ≤ b ∧ wfRows x.rows
theorem okB61_mono (x : S61) (b c : Nat) (h : b ≤ c) (q : okB61 x b) : okB61 x c := by
 obtain ⟨h1, h2, h3, h4, h5, h6, h7⟩ := q
 exact ⟨h1, by omega, h3, fun l hl => by have := h4 l hl; omega, fun r hr => ⟨by have := (h5 r hr).1; omega, by have := (h5 r hr).2.1; omega, (h5 r hr).2.2⟩, by omega, h7⟩
set_option maxRecDepth 100000 in
theorem opb61 : OpB enc w k61 61 okB61 := fun n cs y h => by
 have hl : cs.length = 11 := (trod_len Tryz.underlying61 h).trans (by kernel_rfl)
 match cs, hl, h with
 | [u, u0, u1, u2, u3, u4, u5, u6, u7, u8, g], _, h =>
  obtain ⟨ys, n', hn', hy, hlen, hyl, hf⟩ := DataW.trod_struct Tryz.underlying61 h
  have c5 : Tryz.prog.cellsOf 5 = 1 := by kernel_rfl
  have c44 : Tryz.prog.cellsOf 44 = 9 := by kernel_rfl
  have c47 : Tryz.prog.cellsOf 47 = 1 := by kernel_rfl
  have q0 : DataW.trod enc Tryz.prog w 0 (fun _ => true) true n' 5 (([u, u0, u1, u2, u3, u4, u5, u6, u7, u8, g].drop 0).take (Tryz.prog.cellsOf 5)) = ys[0]? := hf 0 _ rfl
  have q1 : DataW.trod enc Tryz.prog w 0 (fun _ => true) true n' 44 (([u, u0, u1, u2, u3, u4, u5, u6, u7, u8, g].drop 1).take (Tryz.prog.cellsOf 44)) = ys[1]? := hf 1 _ rfl
  have q2 : DataW.trod enc Tryz.prog w 0 (fun _ => true) true n' 47 (([u, u0, u1, u2, u3, u4, u5, u6, u7, u8, g].drop 10).take (Tryz.prog.cellsOf 47)) = ys[2]? := hf 2 _ rfl
  rw [c5] at q0
  rw [c44] at q1
  rw [c47] at q2
  match ys, (show ys.length = 3 from hyl), hy, q0, q1, q2 with
  | [y0, y1, y2], _, hy, q0, q1, q2 =>
  have q0' : DataW.trod enc Tryz.prog w 0 (fun _ => true) true n' 5 [u] = some y0 := q0
  have q1' : DataW.trod enc Tryz.prog w 0 (fun _ => true) true n' 44 [u0, u1, u2, u3, u4, u5, u6, u7, u8] = some y1 := q1
  have q2' : DataW.trod enc Tryz.prog w 0 (fun _ => true) true n' 47 [g] = some y2 := q2
  have hb1 : Rows.uptoBulk y1.1 ≤ Rows.uptoBulk y.1 := by
   rw [hy]
   simp only [Rows.uptoBulk]
   have := bulk_mem (d := y1.1) (l := [y0, y1, y2].map (·.1)) (by simp)
   omega
  have hf := opb_fields Tryz.underlying44 (by kernel_rfl) q1' rfl
  obtain ⟨v0, m0, z0, k0, t0, b0⟩ := hf 0 _ rfl
  obtain ⟨v1, m1, z1, k1, t1, b1⟩ := hf 1 _ rfl
  obtain ⟨v2, m2, z2, k2, t2, b2⟩ := hf 2 _ rfl
  obtain ⟨v3, m3, z3, k3, t3, b3⟩ := hf 3 _ rfl
  obtain ⟨v4, m4, z4, k4, t4, b4⟩ := hf 4 _ rfl
  obtain ⟨v5, m5, z5, k5, t5, b5⟩ := hf 5 _ rfl
  obtain ⟨v6, m6, z6, k6, t6, b6⟩ := hf 6 _ rfl
  obtain ⟨v7, m7, z7, k7, t7, b7⟩ := hf 7 _ rfl
  obtain ⟨v8, m8, z8, k8, t8, b8⟩ := hf 8 _ rfl
  cases k0; cases k1; cases k2; cases k3; cases k4; cases k5; cases k6; cases k7; cases k8
  obtain ⟨kk, e9, _, gk⟩ := DataW.trod_int (k := .u8) (by kernel_rfl) q0'
  obtain ⟨kd, e0, _, _⟩ := DataW.trod_int (k := .u8) (by kernel_rfl) t0
  obtain ⟨Q, qn, qc, rfl⟩ := any_slice Tryz.underlying37 t1
  obtain ⟨nm, e2, _, _⟩ := DataW.trod_string (t := 9) Tryz.underlying9 t2
  obtain ⟨cn, e3, _, _⟩ := DataW.trod_string (t := 9) Tryz.underlying9 t3
  obtain ⟨defs, ⟨A3, c3, e4, l4, g4⟩, _, o4, w4⟩ := opb_slice (t := 38) (e := 109) Tryz.underlying38 (by kernel_rfl) opb109 (fun _ _ _ _ h => h) _ _ _ t4
  obtain ⟨keys, ⟨A4, c4, e5, l5, g5⟩, _, o5, w5⟩ := opb_slice (t := 39) (e := 103) Tryz.underlying39 (by kernel_rfl) opbNames (fun _ _ _ h q => ⟨Nat.le_trans q.1 h, q.2⟩) _ _ _ t5
  obtain ⟨refs, ⟨A5, c5', e6, l6, g6⟩, _, o6, w6⟩ := opb_slice (t := 40) (e := 105) Tryz.underlying40 (by kernel_rfl) opb105 (fun _ _ _ h q => ⟨Nat.le_trans q.1 h, Nat.le_trans q.2.1 h, q.2.2⟩) _ _ _ t6
  obtain ⟨rows, ⟨A6, c6, e7, l7, g7⟩, _, o7, w7⟩ := opb_slice (t := 41) (e := 89) Tryz.underlying41 (by kernel_rfl) opbRow (fun _ _ _ h q => ⟨q.1, Nat.le_trans q.2 h⟩) _ _ _ t7
  obtain ⟨Hh, hn, hc, rfl⟩ := any_slice Tryz.underlying42 t8
  obtain ⟨gone, ⟨A7, c7, e8, l8, g8⟩, _, o8, w8⟩ := opb_slice (t := 47) (e := 4) Tryz.underlying47 (by kernel_rfl) (opb_of (opk_bool Tryz.underlying4)) (fun _ _ _ _ h => h) _ _ _ q2'
  simp only [List.cons.injEq, and_true] at e0 e2 e3 e4 e5 e6 e7 e8 e9
  subst e0 e2 e3 e4 e5 e6 e7 e8 e9
  have hkk : 0 ≤ kk ∧ kk ≤ 255 := by
   have e1 : IntKind.u8.min = 0 := by decide
   have e2 : IntKind.u8.max = 255 := by decide
   have gk2 : (decide (IntKind.u8.min ≤ kk) && decide (kk ≤ IntKind.u8.max)) = true := gk
   rw [e1, e2, Bool.and_eq_true, decide_eq_true_eq, decide_eq_true_eq] at gk2
   exact gk2
  refine ⟨⟨kk, kd, Q, qn, qc, nm, cn, defs, keys, refs, rows, Hh, hn, hc, gone⟩, ⟨A3, c3, A4, c4, A5, c5', A6, c6, A7, c7, rfl, ⟨g4, l4⟩, ⟨g5, l5⟩, ⟨g6, l6⟩, ⟨g7, l7⟩, ⟨g8, l8⟩⟩, hkk, ?_, w4, ?_, ?_, ?_, ?_⟩
  ·show defs.length ≤ _; omega
  ·intro l hl; have := (w5 l hl).1; omega
  ·intro r hr; exact ⟨by have := (w6 r hr).1; omega, by have := (w6 r hr).2.1; omega, (w6 r hr).2.2⟩
  ·show rows.length ≤ _; omega
  ·exact wfRows_of fun row hr => (w7 row hr).1
end
end Go.Proofs.YthgfdnffnbclpaaGreatDoor
namespace Go.Proofs.YthgfdnffnbclpaaGreatDoor.schemeGrows
open Go.ChangeShapes Go.WideShapes Go.ChangeAt Go.RowKit
open Go.ChangeMaps (open_string shut_string)
set_option maxRecDepth 100000 in
theorem lifted (os : Os) (started : os.Started) (H : Type) (enc : TypeId × Value → H) (F : Stop.Interp) :
  ReturnsInHanded {} Tryz.checked os 7 .any (fun w args => ((Rows.OpenSpec.upto Rows.schemeGrowsSpec).pre enc Tryz.prog Tryz.f7 [] false w args ∧ laidMetH Tryz.prog lst w) ∧ sizedMet enc Tryz.prog Tryz.f7 (Rows.OpenSpec.upto Rows.schemeGrowsSpec) false w args)
   (((Rows.OpenSpec.upto Rows.schemeGrowsSpec).at F).post enc Tryz.prog Tryz.f7 false true false false) := by
 refine returnsInHanded_of_cond_all (C := Tryz.checked) (s := Rows.OpenSpec.upto Rows.schemeGrowsSpec) (k := Rows.uptoSmall) rfl (X := fun w _ => laidMetH Tryz.prog lst w) (fun _ _ _ hh h => h.of_heap hh) own started (by kernel_rfl) Tryz.func7
  (OpenSpec.witness_all (enc := enc) (C := Tryz.checked) (os := os) (s := Rows.OpenSpec.upto Rows.schemeGrowsSpec) (k := Rows.uptoSmall) rfl (X := fun w _ => laidMetH Tryz.prog lst w) false (World.laidAll Tryz.prog os lst) #[.slice none 0 0] 8 (World.laidAll_os _ _ _)
   (World.shaped_of_ZipB (by kernel_rfl) (by kernel_rfl)) (by kernel_rfl) (x := ([.nil], [], [])) (by kernel_rfl) (by kernel_rfl) (by kernel_rfl) (by kernel_rfl)
   (by rw [MakeChecks.laidMetH_plain _ _ _ (by kernel_rfl)]; exact laidMet_laidAll _ (by kernel_rfl) (by kernel_rfl))) ?_
 intro W base args ds gs before hval0 hW hcnd hk hL hsh _
 have hLV := laidL_of hL
 clear hL hsh
 have hval : ∀ (j : Nat) t v, Tryz.f7.params[j]? = some t → args[j]? = some v → Value.okWide Tryz.prog W .any base t v := hval0
 have hW' := hW
 obtain ⟨p, q, hA0, hV, rfl, hfz, hnd⟩ := hW
 have hA : DataW.TrodAll enc Tryz.prog W 0 (fun _ => true) true Tryz.f7.params.toList args.toList ds p := hA0
 rw [Tryz.params7] at hA hval
 obtain ⟨v0, vs0, d0, ds0, p0, q0, hargs, rfl, rfl, h0, r0⟩ := trodAll_cons hA
 obtain ⟨rfl, rfl, rfl⟩ := trodAll_nil r0
 obtain rfl : args = #[v0] := by cases args; simp_all
 obtain ⟨rfl, rfl⟩ := trodVars_none hV
 have k0 := h0
 obtain ⟨A0, c0, l, rfl, hc0, hC, _, hln, hok⟩ := open_argB Tryz.underlying58 (by kernel_rfl) opb61 okB61_mono (hval 0 58 v0 rfl rfl) h0
 have hb2 : Rows.uptoBulk d0 ≤ 1048576 := by
  have h : Rows.uptoBulkAll ([d0] ++ ([] : List (DataW H))) ≤ 1048576 := of_decide_eq_true hk
  simp only [List.append_nil, Rows.uptoBulkAll] at h
  omega
 have em : maxLen = 9223372036854775807 := by decide
 clear hA0 hval0 hk
 refine (PAll.grows_law A0 c0 l W hC hc0 (fun x hx => by
  obtain ⟨g1, g2, g3, g4, g5, g6, g7⟩ := hok x hx
  rw [em] at g3 g5
  exact ⟨g1, by omega, g3, fun z hz => by have := g4 z hz; omega, fun r hr => ⟨by have := (g5 r hr).1; omega, by have := (g5 r hr).2.1; omega, (g5 r hr).2.2⟩, by omega, g7⟩) hLV (by omega)).mono fun e W' ⟨he, bel⟩ => ?_
 subst he
 exact ⟨_, rfl, _, _, _, [], _, [], hW', trodAll_mk1 (shut_bool Tryz.underlying4 _), (trodAll_cons_mk (Below.trod laidOut (by kernel_rfl) (of_decide_eq_true (by kernel_rfl)) k0 bel (fun x hx => by simpa using hW'.lt x (by simp [hx]))) trodAll_mk0), rfl, bel.frame _, fun h => by cases h⟩
theorem over : Rows.schemeGrowsUptoRow.holds Tryz.pinned (Rows.OpenSpec.upto Rows.schemeGrowsSpec) :=
 OpenClaim.holds_of_cond 7 Tryz.f7 rfl rfl rfl rfl rfl rfl rfl ⟨rfl, rfl, rfl, rfl, rfl⟩ rfl rfl rfl rfl rfl (by kernel_rfl) Tryz.func7 (by kernel_rfl)
  (of_decide_eq_true (by kernel_rfl)) (by unfold Func.isWrapper; first | (rw [if_pos (by decide +kernel)]; kernel_rfl) | (rw [if_neg (by decide +kernel)]; exact ⟨rfl, rfl⟩))
  (fun os started H enc _ F => lifted os started H enc F)
theorem card_holds : Rows.SchemeGrowsUptoCardSaid :=
 Claim7.holds_tied_plain_at .later [] _ _ _ _ over (fun _ h => by cases h) (by kernel_rfl) (fun _ h => by cases h) schemeGrowsUpto_row_tie rfl ⟨rfl, rfl⟩ (by kernel_rfl) rfl
  (fun f fn hf hfn => by
   obtain rfl : f = 7 := Option.some.inj ((show Tryz.prog.funcNamed "jointer/jointerlaw07.SchemeGrows" = some 7 by kernel_rfl).symm.trans hf) |>.symm
   obtain rfl : fn = Tryz.f7 := (Option.some.inj (Tryz.func7.symm.trans hfn)).symm
   exact ⟨by kernel_rfl, fun j t ht => by
    rw [Tryz.params7] at ht
    have hm : t ∈ [58] := by
     have := Array.mem_of_getElem? ht
     simpa using this
    have hall : ([58].all fun u => !Tryz.prog.wantsStandIn u) = true := by kernel_rfl
    exact (show Tryz.prog.wantsStandIn t = false by simpa using List.all_eq_true.1 hall t hm)⟩)
  (by kernel_rfl)
#print axioms card_holds
end Go.Proofs.YthgfdnffnbclpaaGreatDoor.schemeGrows
namespace Go.Proofs.YthgfdnffnbclpaaGreatDoor
theorem schemeGrows_card : Rows.SchemeGrowsUptoCardSaid := schemeGrows.card_holds
end Go.Proofs.YthgfdnffnbclpaaGreatDoor
