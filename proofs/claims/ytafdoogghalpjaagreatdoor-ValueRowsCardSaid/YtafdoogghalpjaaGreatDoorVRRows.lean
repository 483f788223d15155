/- ValueRows: any two rows of values are compared value by value as the document's reference compares them, and a value put in front of both changes nothing: the law returns true. No condition but that the package's listed variables hold what the program's text lays in them. -/
import Derived.Test.YtafdoogghalpjaaGreatDoorVRow
import Derived.Test.YtafdoogghalpjaaGreatDoorVRowS
import Derived.Test.YtafdoogghalpjaaGreatDoorVPRows
set_option linter.unusedVariables false
namespace Go.Proofs.YtafdoogghalpjaaGreatDoor.valueRows
open Go.ChangeShapes Go.WideShapes Go.ChangeAt Go.RowKit
open Go.ChangeMaps (open_string shut_string)
set_option maxRecDepth 100000 in
theorem lifted (os : Os) (started : os.Started) (H : Type) (enc : TypeId × Value → H) :
    ReturnsInHanded {} Tryz.checked os 9 .any (fun w args => (Rows.valueRowsSpec.pre enc Tryz.prog Tryz.f9 [] false w args ∧ laidMetH Tryz.prog lst w) ∧ sizedMet enc Tryz.prog Tryz.f9 (OpenSpec.ofChange Rows.valueRowsSpec) false w args)
      (Rows.valueRowsSpec.post enc Tryz.prog Tryz.f9 false true false false) := by
  refine returnsInHanded_of_change_all (C := Tryz.checked) (X := fun w _ => laidMetH Tryz.prog lst w) (fun _ _ _ hh h => h.of_heap hh) own started (by kernel_rfl) Tryz.func9
    (ChangeSpec.witness_shaped (enc := enc) (C := Tryz.checked) (os := os) (X := fun w _ => laidMetH Tryz.prog lst w) false (World.laidAll Tryz.prog os lst) #[.slice none 0 0, .slice none 0 0, .agg #[.int .u8 0, .int .i64 0, .string ⟨#[]⟩]] 8 (World.laidAll_os _ _ _)
      (World.shaped_of_ZipB (by kernel_rfl) (by kernel_rfl)) (by kernel_rfl) (by kernel_rfl) (by kernel_rfl)
      (by rw [MakeChecks.laidMetH_plain _ _ _ (by kernel_rfl)]; exact laidMet_laidAll _ (by kernel_rfl) (by kernel_rfl))) ?_
  intro W base args ds gs before hval0 hW hcnd hsz0 hL hsh _
  have hLV := laidV_of hL hsh
  clear hL hsh
  have hsz : (DataW.weightsEach Tryz.prog (Tryz.f9.params.toList ++ Rows.valueRowsSpec.plain.varTypes Tryz.prog) (ds ++ gs)).all (· ≤ reachBytes) = true := hsz0
  have hval : ∀ (j : Nat) t v, Tryz.f9.params[j]? = some t → args[j]? = some v → Value.okWide Tryz.prog W .any base t v := hval0
  have hW' := hW
  obtain ⟨p, q, hA0, hV, rfl, hfz, hnd⟩ := hW
  have hA : DataW.TrodAll enc Tryz.prog W 0 (fun _ => true) true Tryz.f9.params.toList args.toList ds p := hA0
  rw [Tryz.params9] at hA hval hsz
  obtain ⟨v0, vs0, d0, ds0, p0, q0, hargs, rfl, rfl, h0, r0⟩ := trodAll_cons hA
  obtain ⟨v1, vs1, d1, ds1, p1, q1, rfl, rfl, rfl, h1, r1⟩ := trodAll_cons r0
  obtain ⟨v2, vs2, d2, ds2, p2, q2, rfl, rfl, rfl, h2, r2⟩ := trodAll_cons r1
  obtain ⟨rfl, rfl, rfl⟩ := trodAll_nil r2
  obtain rfl : args = #[v0, v1, v2] := by cases args; simp_all
  obtain ⟨rfl, rfl⟩ := trodVars_none hV
  have k0 := h0
  obtain ⟨A0, c0, l0, rfl, hc0, hr0, g0, hd0⟩ := open_rows (hval 0 38 v0 rfl rfl) h0
  have w0 : l0.length ≤ 4398046511000 := by
    rcases hd0 with e | ⟨els, sp, e, hl⟩
    · subst e; simp
    · subst e
      have z := sized_slice hsz (j := 0) (t := 38) (e := 24) rfl rfl Tryz.underlying38
      rw [show Tryz.prog.bytesOf 24 = 32 by kernel_rfl, show reachBytes = 140737488351232 by decide] at z
      omega
  have k1 := h1
  obtain ⟨A1, c1, l1, rfl, hc1, hr1, g1, hd1⟩ := open_rows (hval 1 38 v1 rfl rfl) h1
  have w1 : l1.length ≤ 4398046511000 := by
    rcases hd1 with e | ⟨els, sp, e, hl⟩
    · subst e; simp
    · subst e
      have z := sized_slice hsz (j := 1) (t := 38) (e := 24) rfl rfl Tryz.underlying38
      rw [show Tryz.prog.bytesOf 24 = 32 by kernel_rfl, show reachBytes = 140737488351232 by decide] at z
      omega
  have k2 := h2
  obtain ⟨c20, c21, c22, y20, y21, y22, m2, rfl, rfl, rfl, hy20, hy21, hy22⟩ := Joins.open_agg3 Tryz.underlying24 (by kernel_rfl) (by kernel_rfl) (hval 2 24 v2 rfl rfl) h2
  obtain ⟨a2_0, e20, rfl, w20⟩ := DataW.trod_int Tryz.underlying22 hy20
  obtain ⟨a2_1, e21, rfl, w21⟩ := DataW.trod_int Tryz.underlying2 hy21
  obtain ⟨a2_2, e22, rfl, w22⟩ := DataW.trod_string Tryz.underlying9 hy22
  simp at e20 e21 e22
  subst e20 e21 e22
  clear hA0 hval0 hsz0 hsz
  refine (PAll.jointerlaw01_ValueRows.calls (2 * l0.length + 2 * PAll.most l0 + 60) A0 c0 l0 A1 c1 l1 a2_0 a2_1 a2_2 true W hr0 hc0 hr1 hc1 rfl (PAll.ValueRows l0 l1 a2_0 a2_1 a2_2 w0 w1 g0 g1) hLV).mono fun e W' ⟨he, bel⟩ => ?_
  subst he
  exact ⟨_, rfl, _, _, _, [], _, [], hW', trodAll_mk1 (shut_bool Tryz.underlying4 _), (trodAll_cons_mk (Below.trod laidOut (by kernel_rfl) (of_decide_eq_true (by kernel_rfl)) k0 bel (fun x hx => by simpa using hW'.lt x (by simp [hx]))) (trodAll_cons_mk (Below.trod laidOut (by kernel_rfl) (of_decide_eq_true (by kernel_rfl)) k1 bel (fun x hx => by simpa using hW'.lt x (by simp [hx]))) (trodAll_cons_mk (Below.trod laidOut (by kernel_rfl) (of_decide_eq_true (by kernel_rfl)) k2 bel (fun x hx => by simp at hx)) trodAll_mk0))), rfl, bel.frame _, fun h => by cases h⟩
theorem over : Rows.valueRowsRow.holds Tryz.pinned (OpenSpec.ofChange Rows.valueRowsSpec) :=
  OpenClaim.holds_of_wide 9 Tryz.f9 rfl rfl rfl rfl rfl rfl rfl ⟨rfl, rfl, rfl, rfl, rfl⟩ rfl rfl rfl rfl rfl (by kernel_rfl) Tryz.func9 (by kernel_rfl)
    (of_decide_eq_true (by kernel_rfl)) (by unfold Func.isWrapper; first | (rw [if_pos (by decide +kernel)]; kernel_rfl) | (rw [if_neg (by decide +kernel)]; exact ⟨rfl, rfl⟩))
    (fun os started H enc _ => lifted os started H enc)
theorem card_holds : Rows.ValueRowsCardSaid :=
  Claim7.holds_tied_plain_at .later [] [.data, .data, .data, .data, .sentinel, .sentinel, .pinned, .pinned] true (true, "cab8b0771c4486d0ae18630cdfafdd6c8facf140bafad0c9a804febd3fd855f7") true over (fun _ h => by cases h) (by kernel_rfl) (fun _ h => by cases h) valueRows_row_tie rfl ⟨rfl, rfl⟩ (by kernel_rfl) rfl
    (fun f fn hf hfn => by
      obtain rfl : f = 9 := Option.some.inj ((show Tryz.prog.funcNamed "jointer/jointerlaw01.ValueRows" = some 9 by kernel_rfl).symm.trans hf) |>.symm
      obtain rfl : fn = Tryz.f9 := (Option.some.inj (Tryz.func9.symm.trans hfn)).symm
      exact ⟨by kernel_rfl, fun j t ht => by
        rw [Tryz.params9] at ht
        have hm : t ∈ [24, 38] := by
          have := Array.mem_of_getElem? ht
          simp at this; rcases this with rfl | rfl | rfl <;> simp
        have hall : ([24, 38].all fun u => !Tryz.prog.wantsStandIn u) = true := by kernel_rfl
        exact (show Tryz.prog.wantsStandIn t = false by simpa using List.all_eq_true.1 hall t hm)⟩)
    (by kernel_rfl)
#print axioms card_holds
end Go.Proofs.YtafdoogghalpjaaGreatDoor.valueRows
namespace Go.Proofs.YtafdoogghalpjaaGreatDoor
/-- The card, under a short name, for the claim. -/
theorem valueRows_card : Rows.ValueRowsCardSaid := valueRows.card_holds
end Go.Proofs.YtafdoogghalpjaaGreatDoor
