/- SchemeMemory, by size (what the law reads is of bulk at most 1048576): whatever is written into results changes no argument: the law returns true for any scheme, data, name, rows and list of that bulk. No condition but that the package-level variables that it lists hold what the program's own text gives them. -/
import Derived.Test.YthgfdnffnbclpaaGreatDoorSQM15
import Derived.Test.YthgfdnffnbclpaaGreatDoorSQM22
set_option linter.unusedVariables false
set_option linter.unusedSimpArgs false
namespace Go.Proofs.YthgfdnffnbclpaaGreatDoor.PAll
open Go.RowKit Go.Proofs.YthgfdnffnbclpaaGreatDoorW.PrintWords Go.Proofs.YthgfdnffnbclpaaGreatDoorW.PrintLast Go.Proofs.YthgfdnffnbclpaaGreatDoorW.PrintMore Go.Proofs.YthgfdnffnbclpaaGreatDoor
theorem valid_cols {s : List S49} (hv : validB s = true) : ∀ t ∈ s, t.f1.length ≤ 8 ∧ t.f4.Pairwise (· < ·) := fun t ht => by
  obtain ⟨n, hn, rfl⟩ := List.getElem_of_mem ht
  have := (validB_at hv).2 n hn
  rw [rdT49 hn] at this
  exact ⟨(tabB_facts this).1, ris_pw (tabB_more this).2.2⟩
theorem memory_walk (A0 : Option Addr) (c0 : Nat) (s : List S49) (A1 : Option Addr) (c1 : Nat) (d : Data) (nm : ByteArray) (A3 : Option Addr) (c3 : Nat) (rows : Rows) (A4 : Option Addr) (c4 : Nat) (gone : List Bool) (w : World)
    (hS : Kd.C k49 w A0 s.length s) (hc0 : s.length ≤ c0) (hD : Kd.C (Kd.slice 89 (Kd.slice 87 k64)) w A1 d.length d) (hc1 : d.length ≤ c1)
    (hR : Kd.C (Kd.slice 87 k64) w A3 rows.length rows) (hc3 : rows.length ≤ c3) (hG : Kd.C Kd.bool w A4 gone.length gone) (hc4 : gone.length ≤ c4)
    (hs : ∀ t ∈ s, okT t) (hd : ∀ rows ∈ d, rows.length ≤ maxLen ∧ ∀ row ∈ rows, okRow row) (hr : ∀ row ∈ rows, okRow row) (hss : smallSch s) (hsd : smallData d) (hsr : smallRows rows) (hL : LaidL w) :
    Calls Tryz.prog 6 #[.slice A0 s.length c0, .slice A1 d.length c1, .string nm, .slice A3 rows.length c3, .slice A4 gone.length c4] w fun e w' => e = .returned (.bool true) ∧ Below w.heap.size w w' := by
  have hw : ∀ t ∈ s, wfT t := fun t ht => wfT_of (hs t ht)
  obtain ⟨K1, h1⟩ := insert_is s hw d nm rows
  obtain ⟨K2, h2⟩ := delete_is s hw d nm gone
  obtain ⟨K3, h3⟩ := drop_is s hw d nm
  obtain ⟨K4, h4⟩ := data_is s hw d
  obtain ⟨K5, h5⟩ := valid_is s hw
  exact memory_law (K1 + K2 + K3 + K4 + K5) A0 c0 s A1 c1 d nm A3 c3 rows A4 c4 gone (insB s d nm rows).1 (insB s d nm rows).2 (delB s d nm gone).1 (delB s d nm gone).2
    (createP (dataB s d) s d ⟨#[111, 116, 104, 101, 114]⟩ [] [] []).1 (createP (dataB s d) s d ⟨#[111, 116, 104, 101, 114]⟩ [] [] []).2.1 (createP (dataB s d) s d ⟨#[111, 116, 104, 101, 114]⟩ [] [] []).2.2
    (dropB s d nm).1 (dropB s d nm).2.1 (dropB s d nm).2.2 (addG (validB s) s nm ⟨#[97]⟩).1 (addG (validB s) s nm ⟨#[97]⟩).2 (dataB s d) (validB s) w
    hS hc0 hD hc1 hR hc3 hG hc4 hss hsd hsr (wfData_of hd) (wfRows_of hr) (h4 _ (by omega)) (h5 _ (by omega))
    (fun h t ht => (valid_cols (dataB_facts h).1 t ht).1) (fun h => ref_lt (dataB_facts h).1) (fun h t ht => (valid_cols h t ht).2)
    (h1 _ (by omega)) (h2 _ (by omega)) rfl (h3 _ (by omega)) rfl hL
end Go.Proofs.YthgfdnffnbclpaaGreatDoor.PAll
namespace Go.Proofs.YthgfdnffnbclpaaGreatDoor.schemeMemory
open Go.ChangeShapes Go.WideShapes Go.ChangeAt Go.RowKit
open Go.ChangeMaps (open_string shut_string)
set_option maxRecDepth 100000 in
theorem lifted (os : Os) (started : os.Started) (H : Type) (enc : TypeId × Value → H) (F : Stop.Interp) :
    ReturnsInHanded {} Tryz.checked os 6 .any (fun w args => ((Rows.OpenSpec.upto Rows.schemeMemorySpec).pre enc Tryz.prog Tryz.f6 [] false w args ∧ laidMetH Tryz.prog lst w) ∧ sizedMet enc Tryz.prog Tryz.f6 (Rows.OpenSpec.upto Rows.schemeMemorySpec) false w args)
      (((Rows.OpenSpec.upto Rows.schemeMemorySpec).at F).post enc Tryz.prog Tryz.f6 false true false false) := by
  refine returnsInHanded_of_cond_all (C := Tryz.checked) (s := Rows.OpenSpec.upto Rows.schemeMemorySpec) (k := Rows.uptoSmall) rfl (X := fun w _ => laidMetH Tryz.prog lst w) (fun _ _ _ hh h => h.of_heap hh) own started (by kernel_rfl) Tryz.func6
    (OpenSpec.witness_all (enc := enc) (C := Tryz.checked) (os := os) (s := Rows.OpenSpec.upto Rows.schemeMemorySpec) (k := Rows.uptoSmall) rfl (X := fun w _ => laidMetH Tryz.prog lst w) false (World.laidAll Tryz.prog os lst) #[.slice none 0 0, .slice none 0 0, .string ⟨#[]⟩, .slice none 0 0, .slice none 0 0] 8 (World.laidAll_os _ _ _)
      (World.shaped_of_ZipB (by kernel_rfl) (by kernel_rfl)) (by kernel_rfl) (x := ([.nil, .nil, .lit (.string []), .nil, .nil], [], [])) (by kernel_rfl) (by kernel_rfl) (by kernel_rfl) (by kernel_rfl)
      (by rw [MakeChecks.laidMetH_plain _ _ _ (by kernel_rfl)]; exact laidMet_laidAll _ (by kernel_rfl) (by kernel_rfl))) ?_
  intro W base args ds gs before hval0 hW hcnd hk hL hsh _
  have hLV := laidL_of hL
  clear hL hsh
  have hval : ∀ (j : Nat) t v, Tryz.f6.params[j]? = some t → args[j]? = some v → Value.okWide Tryz.prog W .any base t v := hval0
  have hW' := hW
  obtain ⟨p, q, hA0, hV, rfl, hfz, hnd⟩ := hW
  have hA : DataW.TrodAll enc Tryz.prog W 0 (fun _ => true) true Tryz.f6.params.toList args.toList ds p := hA0
  rw [Tryz.params6] at hA hval
  obtain ⟨v0, vs0, d0, ds0, p0, q0, hargs, rfl, rfl, h0, r0⟩ := trodAll_cons hA
  obtain ⟨v1, vs1, d1, ds1, p1, q1, rfl, rfl, rfl, h1, r1⟩ := trodAll_cons r0
  obtain ⟨v2, vs2, d2, ds2, p2, q2, rfl, rfl, rfl, h2, r2⟩ := trodAll_cons r1
  obtain ⟨v3, vs3, d3, ds3, p3, q3, rfl, rfl, rfl, h3, r3⟩ := trodAll_cons r2
  obtain ⟨v4, vs4, d4, ds4, p4, q4, rfl, rfl, rfl, h4, r4⟩ := trodAll_cons r3
  obtain ⟨rfl, rfl, rfl⟩ := trodAll_nil r4
  obtain rfl : args = #[v0, v1, v2, v3, v4] := by cases args; simp_all
  obtain ⟨rfl, rfl⟩ := trodVars_none hV
  have k0 := h0
  have k1 := h1
  have k3 := h3
  have k4 := h4
  obtain ⟨A0, c0, s, rfl, hc0, hS, hs, hss⟩ := open_schemeB (hval 0 23 v0 rfl rfl) h0
  obtain ⟨A1, c1, d, rfl, hc1, hD, hd, hsd⟩ := open_dataB (hval 1 25 v1 rfl rfl) h1
  obtain ⟨nm, rfl, e2, rfl, y2⟩ := open_string Tryz.underlying9 (hval 2 9 v2 rfl rfl) h2
  obtain ⟨A3, c3, rows, rfl, hc3, hR, hr, hsr⟩ := open_rowsB (hval 3 41 v3 rfl rfl) h3
  obtain ⟨A4, c4, gone, rfl, hc4, hG, _⟩ := open_arg (t := 47) (e := 4) Tryz.underlying47 (by kernel_rfl) (opk_bool Tryz.underlying4) (hval 4 47 v4 rfl rfl) h4
  have hbk : Rows.uptoBulk d0 ≤ 1048576 ∧ Rows.uptoBulk d1 ≤ 1048576 ∧ Rows.uptoBulk d3 ≤ 1048576 := by
    have h : Rows.uptoBulkAll ([d0, d1, d2, d3, d4] ++ ([] : List (DataW H))) ≤ 1048576 := of_decide_eq_true hk
    simp only [List.append_nil, Rows.uptoBulkAll] at h
    omega
  subst e2
  clear hA0 hval0 hk
  refine (PAll.memory_walk A0 c0 s A1 c1 d nm A3 c3 rows A4 c4 gone W hS hc0 hD hc1 hR hc3 hG hc4 hs hd hr (hss hbk.1) (hsd hbk.2.1) (hsr hbk.2.2) hLV).mono fun e W' ⟨he, bel⟩ => ?_
  subst he
  exact ⟨_, rfl, _, _, _, [], _, [], hW', trodAll_mk1 (shut_bool Tryz.underlying4 _), (trodAll_cons_mk (Below.trod laidOut (by kernel_rfl) (of_decide_eq_true (by kernel_rfl)) k0 bel (fun x hx => by simpa using hW'.lt x (by simp [hx])))
    (trodAll_cons_mk (Below.trod laidOut (by kernel_rfl) (of_decide_eq_true (by kernel_rfl)) k1 bel (fun x hx => by simpa using hW'.lt x (by simp [hx]))) (trodAll_cons_mk (shut_string Tryz.underlying9 y2)
    (trodAll_cons_mk (Below.trod laidOut (by kernel_rfl) (of_decide_eq_true (by kernel_rfl)) k3 bel (fun x hx => by simpa using hW'.lt x (by simp [hx])))
    (trodAll_cons_mk (Below.trod laidOut (by kernel_rfl) (of_decide_eq_true (by kernel_rfl)) k4 bel (fun x hx => by simpa using hW'.lt x (by simp [hx]))) trodAll_mk0))))), rfl, bel.frame _, fun h => by cases h⟩
theorem over : Rows.schemeMemoryUptoRow.holds Tryz.pinned (Rows.OpenSpec.upto Rows.schemeMemorySpec) :=
  OpenClaim.holds_of_cond 6 Tryz.f6 rfl rfl rfl rfl rfl rfl rfl ⟨rfl, rfl, rfl, rfl, rfl⟩ rfl rfl rfl rfl rfl (by kernel_rfl) Tryz.func6 (by kernel_rfl)
    (of_decide_eq_true (by kernel_rfl)) (by unfold Func.isWrapper; first | (rw [if_pos (by decide +kernel)]; kernel_rfl) | (rw [if_neg (by decide +kernel)]; exact ⟨rfl, rfl⟩))
    (fun os started H enc _ F => lifted os started H enc F)
theorem card_holds : Rows.SchemeMemoryUptoCardSaid :=
  Claim7.holds_tied_plain_at .later [] _ _ _ _ over (fun _ h => by cases h) (by kernel_rfl) (fun _ h => by cases h) schemeMemoryUpto_row_tie rfl ⟨rfl, rfl⟩ (by kernel_rfl) rfl
    (fun f fn hf hfn => by
      obtain rfl : f = 6 := Option.some.inj ((show Tryz.prog.funcNamed "jointer/jointerlaw07.SchemeMemory" = some 6 by kernel_rfl).symm.trans hf) |>.symm
      obtain rfl : fn = Tryz.f6 := (Option.some.inj (Tryz.func6.symm.trans hfn)).symm
      exact ⟨by kernel_rfl, fun j t ht => by
        rw [Tryz.params6] at ht
        have hm : t ∈ [23, 25, 9, 41, 47] := by
          have := Array.mem_of_getElem? ht
          simpa using this
        have hall : ([23, 25, 9, 41, 47].all fun u => !Tryz.prog.wantsStandIn u) = true := by kernel_rfl
        exact (show Tryz.prog.wantsStandIn t = false by simpa using List.all_eq_true.1 hall t hm)⟩)
    (by kernel_rfl)
#print axioms card_holds
end Go.Proofs.YthgfdnffnbclpaaGreatDoor.schemeMemory
namespace Go.Proofs.YthgfdnffnbclpaaGreatDoor
/-- The card, under a short name, for the claim. -/
theorem schemeMemory_card : Rows.SchemeMemoryUptoCardSaid := schemeMemory.card_holds
end Go.Proofs.YthgfdnffnbclpaaGreatDoor
