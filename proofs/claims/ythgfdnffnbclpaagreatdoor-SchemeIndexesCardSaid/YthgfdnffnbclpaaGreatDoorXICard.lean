/- SchemeIndexes: a scheme with one index more or less is what the document's reference says; added and taken out again it is as it was: the law returns true for any scheme and names. No condition but that the package-level variables that it lists hold what the program's own text gives them. -/
import Derived.Test.YthgfdnffnbclpaaGreatDoorXI04
import Derived.Test.YthgfdnffnbclpaaGreatDoorXI21
import Derived.Test.YthgfdnffnbclpaaGreatDoorXI22
set_option linter.unusedVariables false
set_option linter.unusedSimpArgs false
namespace Go.Proofs.YthgfdnffnbclpaaGreatDoor.PAll
open Go.RowKit Go.Proofs.YthgfdnffnbclpaaGreatDoorW.PrintWords Go.Proofs.YthgfdnffnbclpaaGreatDoorW.PrintLast Go.Proofs.YthgfdnffnbclpaaGreatDoorW.PrintMore Go.Proofs.YthgfdnffnbclpaaGreatDoor
theorem wfT_of {t : S49} (h : okT t) : wfT t := by
  obtain ⟨h0, h1, h2, h3, h4⟩ := h
  have e : maxLen = 9223372036854775807 := by decide
  rw [e] at h0 h4
  refine ⟨h0, fun c hc => by have := h1.2 c hc; rw [e] at this; exact this, fun k hk => by have := (h2.2 k hk).1; rw [e] at this; exact this, fun r hr => ?_, h4.1⟩
  obtain ⟨g1, g2⟩ := h3.2 r hr
  rw [e] at g1
  exact ⟨g1, List.all_eq_true.2 g2⟩
theorem indexes_walk (A0 : Option Addr) (c0 : Nat) (s : List S49) (nm cn : ByteArray) (w : World)
    (hS : Kd.C k49 w A0 s.length s) (hc0 : s.length ≤ c0) (hs : ∀ t ∈ s, okT t) (hL : LaidL w) :
    Calls Tryz.prog 4 #[.slice A0 s.length c0, .string nm, .string cn] w fun e w' => e = .returned (.bool true) ∧ Below w.heap.size w w' := by
  have hw : ∀ t ∈ s, wfT t := fun t ht => wfT_of (hs t ht)
  obtain ⟨K1, h1⟩ := valid_is s hw
  have hpw : ∀ x : List S49, validB x = true → smallSch x ∧ ∀ t ∈ x, t.f4.Pairwise (· < ·) := fun x hx => ⟨smallS_of hx, fun t ht => by
    obtain ⟨n, hn, rfl⟩ := List.getElem_of_mem ht
    have := (validB_at hx).2 n hn
    rw [rdT49 hn] at this
    exact ris_pw (tabB_more this).2.2⟩
  by_cases q : (addG (validB s) s nm cn).2 = 0
  · obtain ⟨g1, g2, ⟨n, l, g3, g4, g5⟩, g6⟩ := add_back (fun h => h) q
    have hw2 : ∀ t ∈ (addG (validB s) s nm cn).1, wfT t := fun t ht => by
      have hsm := (smallS_of g2).2 t ht
      rw [g3] at ht
      rcases List.mem_or_eq_of_mem_set ht with ht | rfl
      · exact hw t ht
      · have g7 := hw _ (List.getElem_mem g4)
        rw [rdT49 g4] at hsm ⊢
        obtain ⟨a1, a2, a3, a4, a5⟩ := g7
        obtain ⟨c1, c2, c3, c4⟩ := hsm
        exact ⟨a1, a2, a3, a4, by omega⟩
    obtain ⟨K2, h2⟩ := valid_is _ hw2
    have e2 := h2 (K1 + K2) (by omega)
    rw [g2] at e2
    exact indexes_law (K1 + K2) A0 c0 s nm cn (validB s) (addG (validB s) s nm cn).1 (rmvG (validB s) s nm cn).1 (addG (validB s) s nm cn).2 (rmvG (validB s) s nm cn).2 w hS hc0 (h1 _ (by omega)) (refValid_is s) (hpw s) hL rfl rfl (fun _ => ⟨hpw _ g2, e2, g6⟩)
  · exact indexes_law K1 A0 c0 s nm cn (validB s) (addG (validB s) s nm cn).1 (rmvG (validB s) s nm cn).1 (addG (validB s) s nm cn).2 (rmvG (validB s) s nm cn).2 w hS hc0 (h1 _ (by omega)) (refValid_is s) (hpw s) hL rfl rfl (fun h => absurd h q)
end Go.Proofs.YthgfdnffnbclpaaGreatDoor.PAll
namespace Go.Proofs.YthgfdnffnbclpaaGreatDoor.schemeIndexes
open Go.ChangeShapes Go.WideShapes Go.ChangeAt Go.RowKit
open Go.ChangeMaps (open_string shut_string)
set_option maxRecDepth 100000 in
theorem lifted (os : Os) (started : os.Started) (H : Type) (enc : TypeId × Value → H) :
    ReturnsInHanded {} Tryz.checked os 4 .any (fun w args => (Rows.schemeIndexesSpec.pre enc Tryz.prog Tryz.f4 [] false w args ∧ laidMetH Tryz.prog lst w) ∧ sizedMet enc Tryz.prog Tryz.f4 (OpenSpec.ofChange Rows.schemeIndexesSpec) false w args)
      (Rows.schemeIndexesSpec.post enc Tryz.prog Tryz.f4 false true false false) := by
  refine returnsInHanded_of_change_all (C := Tryz.checked) (X := fun w _ => laidMetH Tryz.prog lst w) (fun _ _ _ hh h => h.of_heap hh) own started (by kernel_rfl) Tryz.func4
    (ChangeSpec.witness_shaped (enc := enc) (C := Tryz.checked) (os := os) (X := fun w _ => laidMetH Tryz.prog lst w) false (World.laidAll Tryz.prog os lst) #[.slice none 0 0, .string ⟨#[]⟩, .string ⟨#[]⟩] 8 (World.laidAll_os _ _ _)
      (World.shaped_of_ZipB (by kernel_rfl) (by kernel_rfl)) (by kernel_rfl) (by kernel_rfl) (by kernel_rfl)
      (by rw [MakeChecks.laidMetH_plain _ _ _ (by kernel_rfl)]; exact laidMet_laidAll _ (by kernel_rfl) (by kernel_rfl))) ?_
  intro W base args ds gs before hval0 hW hcnd hsz0 hL hsh _
  have hLV := laidL_of hL
  clear hL hsh
  have hval : ∀ (j : Nat) t v, Tryz.f4.params[j]? = some t → args[j]? = some v → Value.okWide Tryz.prog W .any base t v := hval0
  have hW' := hW
  obtain ⟨p, q, hA0, hV, rfl, hfz, hnd⟩ := hW
  have hA : DataW.TrodAll enc Tryz.prog W 0 (fun _ => true) true Tryz.f4.params.toList args.toList ds p := hA0
  rw [Tryz.params4] at hA hval
  obtain ⟨v0, vs0, d0, ds0, p0, q0, hargs, rfl, rfl, h0, r0⟩ := trodAll_cons hA
  obtain ⟨v1, vs1, d1, ds1, p1, q1, rfl, rfl, rfl, h1, r1⟩ := trodAll_cons r0
  obtain ⟨v2, vs2, d2, ds2, p2, q2, rfl, rfl, rfl, h2, r2⟩ := trodAll_cons r1
  obtain ⟨rfl, rfl, rfl⟩ := trodAll_nil r2
  obtain rfl : args = #[v0, v1, v2] := by cases args; simp_all
  obtain ⟨rfl, rfl⟩ := trodVars_none hV
  have k0 := h0
  obtain ⟨A0, c0, s, rfl, hc0, hS, hs⟩ := open_scheme (hval 0 23 v0 rfl rfl) h0
  obtain ⟨nm, rfl, rfl, rfl, y1⟩ := open_string Tryz.underlying9 (hval 1 9 v1 rfl rfl) h1
  obtain ⟨cn, rfl, rfl, rfl, y2⟩ := open_string Tryz.underlying9 (hval 2 9 v2 rfl rfl) h2
  clear hA0 hval0 hsz0
  refine (PAll.indexes_walk A0 c0 s nm cn W hS hc0 hs hLV).mono fun e W' ⟨he, bel⟩ => ?_
  subst he
  exact ⟨_, rfl, _, _, _, [], _, [], hW', trodAll_mk1 (shut_bool Tryz.underlying4 _), (trodAll_cons_mk (Below.trod laidOut (by kernel_rfl) (of_decide_eq_true (by kernel_rfl)) k0 bel (fun x hx => by simpa using hW'.lt x (by simp [hx])))
    (trodAll_cons_mk (shut_string Tryz.underlying9 y1) (trodAll_cons_mk (shut_string Tryz.underlying9 y2) trodAll_mk0))), rfl, bel.frame _, fun h => by cases h⟩
theorem over : Rows.schemeIndexesRow.holds Tryz.pinned (OpenSpec.ofChange Rows.schemeIndexesSpec) :=
  OpenClaim.holds_of_wide 4 Tryz.f4 rfl rfl rfl rfl rfl rfl rfl ⟨rfl, rfl, rfl, rfl, rfl⟩ rfl rfl rfl rfl rfl (by kernel_rfl) Tryz.func4 (by kernel_rfl)
    (of_decide_eq_true (by kernel_rfl)) (by unfold Func.isWrapper; first | (rw [if_pos (by decide +kernel)]; kernel_rfl) | (rw [if_neg (by decide +kernel)]; exact ⟨rfl, rfl⟩))
    (fun os started H enc _ => lifted os started H enc)
theorem card_holds : Rows.SchemeIndexesCardSaid :=
  Claim7.holds_tied_plain_at .later [] _ _ _ _ over (fun _ h => by cases h) (by kernel_rfl) (fun _ h => by cases h) schemeIndexes_row_tie rfl ⟨rfl, rfl⟩ (by kernel_rfl) rfl
    (fun f fn hf hfn => by
      obtain rfl : f = 4 := Option.some.inj ((show Tryz.prog.funcNamed "jointer/jointerlaw07.SchemeIndexes" = some 4 by kernel_rfl).symm.trans hf) |>.symm
      obtain rfl : fn = Tryz.f4 := (Option.some.inj (Tryz.func4.symm.trans hfn)).symm
      exact ⟨by kernel_rfl, fun j t ht => by
        rw [Tryz.params4] at ht
        have hm : t ∈ [23, 9, 9] := by
          have := Array.mem_of_getElem? ht
          simpa using this
        have hall : ([23, 9, 9].all fun u => !Tryz.prog.wantsStandIn u) = true := by kernel_rfl
        exact (show Tryz.prog.wantsStandIn t = false by simpa using List.all_eq_true.1 hall t hm)⟩)
    (by kernel_rfl)
#print axioms card_holds
end Go.Proofs.YthgfdnffnbclpaaGreatDoor.schemeIndexes
namespace Go.Proofs.YthgfdnffnbclpaaGreatDoor
/-- The card, under a short name, for the claim. -/
theorem schemeIndexes_card : Rows.SchemeIndexesCardSaid := schemeIndexes.card_holds
end Go.Proofs.YthgfdnffnbclpaaGreatDoor
