/- SchemeDrops: scheme and data without a table, or the error, are what the document's reference says: the law returns true for any scheme, data and name. No condition but that the package-level variables that it lists hold what the program's own text gives them. -/
import Derived.Test.YthgfdnffnbclpaaGreatDoorXR04
import Derived.Test.YthgfdnffnbclpaaGreatDoorXR21
set_option linter.unusedVariables false
set_option linter.unusedSimpArgs false
namespace Go.Proofs.YthgfdnffnbclpaaGreatDoor.PAll
open Go.RowKit Go.Proofs.YthgfdnffnbclpaaGreatDoorW.PrintWords Go.Proofs.YthgfdnffnbclpaaGreatDoorW.PrintLast Go.Proofs.YthgfdnffnbclpaaGreatDoorW.PrintMore Go.Proofs.YthgfdnffnbclpaaGreatDoor
theorem wfT_of {t : S49} (h : okT t) : wfT t := by
  obtain ⟨h0, h1, h2, h3, h4⟩ := h
  have e : maxLen = 9223372036854775807 := by decide
  rw [e] at h0 h4
  refine ⟨h0, fun c hc => by have := h1.2 c hc; rw [e] at this; exact this, fun k hk => by have := (h2.2 k hk).1; rw [e] at this; exact this, fun r hr => ?_, h4.1⟩
  obtain ⟨g1, g2⟩ := h3.2 r hr
  rw [e] at g1
  exact ⟨g1, List.all_eq_true.2 g2⟩
theorem wfData_of {d : Data} (h : ∀ rows ∈ d, rows.length ≤ maxLen ∧ ∀ row ∈ rows, okRow row) : wfData d := fun rows hr row hw x hx => ((h rows hr).2 row hw).2 x hx
theorem drops_walk (A0 : Option Addr) (c0 : Nat) (s : List S49) (A1 : Option Addr) (c1 : Nat) (d : Data) (nm : ByteArray) (w : World)
    (hS : Kd.C k49 w A0 s.length s) (hc0 : s.length ≤ c0) (hD : Kd.C (Kd.slice 89 (Kd.slice 87 k64)) w A1 d.length d) (hc1 : d.length ≤ c1) (hs : ∀ t ∈ s, okT t) (hd : ∀ rows ∈ d, rows.length ≤ maxLen ∧ ∀ row ∈ rows, okRow row) (hL : LaidL w) :
    Calls Tryz.prog 3 #[.slice A0 s.length c0, .slice A1 d.length c1, .string nm] w fun e w' => e = .returned (.bool true) ∧ Below w.heap.size w w' := by
  have hw : ∀ t ∈ s, wfT t := fun t ht => wfT_of (hs t ht)
  obtain ⟨K1, h1⟩ := drop_is s hw d nm
  obtain ⟨K2, h2⟩ := data_is s hw d
  have hB : dataP (K1 + K2) s d = some (dataB s d) := h2 _ (by omega)
  have hsd : dataP (K1 + K2) s d = some true → dataB s d = true := fun h => by rw [hB] at h; exact Option.some.inj h
  have hsd2 : refDataP s d = some true → dataB s d = true := fun h => by rw [refData_is] at h; exact Option.some.inj h
  exact drops_law (K1 + K2) A0 c0 s A1 c1 d nm (dropB s d nm).1 (dropB s d nm).2.1 (dropB s d nm).2.2 w hS hc0 hD hc1 (wfData_of hd)
    (fun h => ⟨small_of (hsd h), smallS_of (dataB_facts (hsd h)).1, ref_lt (dataB_facts (hsd h)).1⟩) (fun h => ⟨small_of (hsd2 h), smallS_of (dataB_facts (hsd2 h)).1, ref_lt (dataB_facts (hsd2 h)).1, use_own (dataB_facts (hsd2 h)).1⟩) hL (refDrop_is s d nm) (h1 _ (by omega))
end Go.Proofs.YthgfdnffnbclpaaGreatDoor.PAll
namespace Go.Proofs.YthgfdnffnbclpaaGreatDoor.schemeDrops
open Go.ChangeShapes Go.WideShapes Go.ChangeAt Go.RowKit
open Go.ChangeMaps (open_string shut_string)
set_option maxRecDepth 100000 in
theorem lifted (os : Os) (started : os.Started) (H : Type) (enc : TypeId × Value → H) :
    ReturnsInHanded {} Tryz.checked os 3 .any (fun w args => (Rows.schemeDropsSpec.pre enc Tryz.prog Tryz.f3 [] false w args ∧ laidMetH Tryz.prog lst w) ∧ sizedMet enc Tryz.prog Tryz.f3 (OpenSpec.ofChange Rows.schemeDropsSpec) false w args)
      (Rows.schemeDropsSpec.post enc Tryz.prog Tryz.f3 false true false false) := by
  refine returnsInHanded_of_change_all (C := Tryz.checked) (X := fun w _ => laidMetH Tryz.prog lst w) (fun _ _ _ hh h => h.of_heap hh) own started (by kernel_rfl) Tryz.func3
    (ChangeSpec.witness_shaped (enc := enc) (C := Tryz.checked) (os := os) (X := fun w _ => laidMetH Tryz.prog lst w) false (World.laidAll Tryz.prog os lst) #[.slice none 0 0, .slice none 0 0, .string ⟨#[]⟩] 8 (World.laidAll_os _ _ _)
      (World.shaped_of_ZipB (by kernel_rfl) (by kernel_rfl)) (by kernel_rfl) (by kernel_rfl) (by kernel_rfl)
      (by rw [MakeChecks.laidMetH_plain _ _ _ (by kernel_rfl)]; exact laidMet_laidAll _ (by kernel_rfl) (by kernel_rfl))) ?_
  intro W base args ds gs before hval0 hW hcnd hsz0 hL hsh _
  have hLV := laidL_of hL
  clear hL hsh
  have hval : ∀ (j : Nat) t v, Tryz.f3.params[j]? = some t → args[j]? = some v → Value.okWide Tryz.prog W .any base t v := hval0
  have hW' := hW
  obtain ⟨p, q, hA0, hV, rfl, hfz, hnd⟩ := hW
  have hA : DataW.TrodAll enc Tryz.prog W 0 (fun _ => true) true Tryz.f3.params.toList args.toList ds p := hA0
  rw [Tryz.params3] at hA hval
  obtain ⟨v0, vs0, d0, ds0, p0, q0, hargs, rfl, rfl, h0, r0⟩ := trodAll_cons hA
  obtain ⟨v1, vs1, d1, ds1, p1, q1, rfl, rfl, rfl, h1, r1⟩ := trodAll_cons r0
  obtain ⟨v2, vs2, d2, ds2, p2, q2, rfl, rfl, rfl, h2, r2⟩ := trodAll_cons r1
  obtain ⟨rfl, rfl, rfl⟩ := trodAll_nil r2
  obtain rfl : args = #[v0, v1, v2] := by cases args; simp_all
  obtain ⟨rfl, rfl⟩ := trodVars_none hV
  have k0 := h0
  have k1 := h1
  obtain ⟨A0, c0, s, rfl, hc0, hS, hs⟩ := open_scheme (hval 0 23 v0 rfl rfl) h0
  obtain ⟨A1, c1, d, rfl, hc1, hD, hd⟩ := open_data (hval 1 25 v1 rfl rfl) h1
  obtain ⟨nm, rfl, rfl, rfl, y2⟩ := open_string Tryz.underlying9 (hval 2 9 v2 rfl rfl) h2
  clear hA0 hval0 hsz0
  refine (PAll.drops_walk A0 c0 s A1 c1 d nm W hS hc0 hD hc1 hs hd hLV).mono fun e W' ⟨he, bel⟩ => ?_
  subst he
  exact ⟨_, rfl, _, _, _, [], _, [], hW', trodAll_mk1 (shut_bool Tryz.underlying4 _), (trodAll_cons_mk (Below.trod laidOut (by kernel_rfl) (of_decide_eq_true (by kernel_rfl)) k0 bel (fun x hx => by simpa using hW'.lt x (by simp [hx])))
    (trodAll_cons_mk (Below.trod laidOut (by kernel_rfl) (of_decide_eq_true (by kernel_rfl)) k1 bel (fun x hx => by simpa using hW'.lt x (by simp [hx]))) (trodAll_cons_mk (shut_string Tryz.underlying9 y2) trodAll_mk0))), rfl, bel.frame _, fun h => by cases h⟩
theorem over : Rows.schemeDropsRow.holds Tryz.pinned (OpenSpec.ofChange Rows.schemeDropsSpec) :=
  OpenClaim.holds_of_wide 3 Tryz.f3 rfl rfl rfl rfl rfl rfl rfl ⟨rfl, rfl, rfl, rfl, rfl⟩ rfl rfl rfl rfl rfl (by kernel_rfl) Tryz.func3 (by kernel_rfl)
    (of_decide_eq_true (by kernel_rfl)) (by unfold Func.isWrapper; first | (rw [if_pos (by decide +kernel)]; kernel_rfl) | (rw [if_neg (by decide +kernel)]; exact ⟨rfl, rfl⟩))
    (fun os started H enc _ => lifted os started H enc)
theorem card_holds : Rows.SchemeDropsCardSaid :=
  Claim7.holds_tied_plain_at .later [] _ _ _ _ over (fun _ h => by cases h) (by kernel_rfl) (fun _ h => by cases h) schemeDrops_row_tie rfl ⟨rfl, rfl⟩ (by kernel_rfl) rfl
    (fun f fn hf hfn => by
      obtain rfl : f = 3 := Option.some.inj ((show Tryz.prog.funcNamed "jointer/jointerlaw07.SchemeDrops" = some 3 by kernel_rfl).symm.trans hf) |>.symm
      obtain rfl : fn = Tryz.f3 := (Option.some.inj (Tryz.func3.symm.trans hfn)).symm
      exact ⟨by kernel_rfl, fun j t ht => by
        rw [Tryz.params3] at ht
        have hm : t ∈ [23, 25, 9] := by
          have := Array.mem_of_getElem? ht
          simpa using this
        have hall : ([23, 25, 9].all fun u => !Tryz.prog.wantsStandIn u) = true := by kernel_rfl
        exact (show Tryz.prog.wantsStandIn t = false by simpa using List.all_eq_true.1 hall t hm)⟩)
    (by kernel_rfl)
#print axioms card_holds
end Go.Proofs.YthgfdnffnbclpaaGreatDoor.schemeDrops
namespace Go.Proofs.YthgfdnffnbclpaaGreatDoor
/-- The card, under a short name, for the claim. -/
theorem schemeDrops_card : Rows.SchemeDropsCardSaid := schemeDrops.card_holds
end Go.Proofs.YthgfdnffnbclpaaGreatDoor
