/- SchemeInserts: the data with more rows, or the error, are what the document's reference says: the law returns true for any scheme, data, name and rows. -/
import Derived.Test.YthgfdnffnbclpaaDoorQI17
import Derived.Test.YthgfdnffnbclpaaDoorQI18
set_option linter.unusedVariables false
set_option linter.unusedSimpArgs false
namespace Go.Proofs.YthgfdnffnbclpaaDoor.PAll
open Go.RowKit Go.Proofs.YthgfdnffnbclpaaDoorW.PrintWords Go.Proofs.YthgfdnffnbclpaaDoorW.PrintLast Go.Proofs.YthgfdnffnbclpaaDoorW.PrintMore Go.Proofs.YthgfdnffnbclpaaDoor
theorem inserts_walk (A0 : Option Addr) (c0 : Nat) (s : List S49) (A1 : Option Addr) (c1 : Nat) (d : Data) (nm : ByteArray) (A3 : Option Addr) (c3 : Nat) (rows : Rows) (w : World)
    (hS : Kd.C k49 w A0 s.length s) (hc0 : s.length ≤ c0) (hD : Kd.C (Kd.slice 51 (Kd.slice 64 k64)) w A1 d.length d) (hc1 : d.length ≤ c1) (hR : Kd.C (Kd.slice 64 k64) w A3 rows.length rows) (hc3 : rows.length ≤ c3)
    (hs : ∀ t ∈ s, okT t) (hd : ∀ rows ∈ d, rows.length ≤ maxLen ∧ ∀ row ∈ rows, okRow row) (hr : ∀ row ∈ rows, okRow row) (hrl : rows.length ≤ 6000000000000) (hL : LaidL w) :
    Calls Tryd.prog 4 #[.slice A0 s.length c0, .slice A1 d.length c1, .string nm, .slice A3 rows.length c3] w fun e w' => e = .returned (.bool true) ∧ Below w.heap.size w w' := by
  have hw : ∀ t ∈ s, wfT t := fun t ht => wfT_of (hs t ht)
  obtain ⟨K1, h1⟩ := insert_is s hw d nm rows
  obtain ⟨K2, h2⟩ := data_is s hw d
  have hB : dataP (K1 + K2) s d = some (dataB s d) := h2 _ (by omega)
  have hsd : dataP (K1 + K2) s d = some true → dataB s d = true := fun h => by rw [hB] at h; exact Option.some.inj h
  have hsd2 : refDataP s d = some true → dataB s d = true := fun h => by rw [refData_is] at h; exact Option.some.inj h
  exact inserts_law (K1 + K2) A0 c0 s A1 c1 d nm A3 c3 rows (insB s d nm rows).1 (insB s d nm rows).2 w hS hc0 hD hc1 hR hc3 (wfData_of hd) (wfRows_of hr) (fun h => small_of (hsd h)) (fun h => small_of (hsd2 h)) hrl
    (fun h h0 he hl => by
      have hr : findP nm 0 s < (s.length : Int) := by have := findP_range nm s 0; omega
      have e : findP nm 0 s = ((findP nm 0 s).toNat : Int) := by omega
      rw [e] at he
      exact smallRows_of (dataB_facts (hsd h)).1 (by omega) he hl)
    (fun h n hn he hl => smallRows_of (dataB_facts (hsd2 h)).1 hn he hl) hL (refInsert_is s d nm rows) (h1 _ (by omega))
end Go.Proofs.YthgfdnffnbclpaaDoor.PAll
namespace Go.Proofs.YthgfdnffnbclpaaDoor.schemeInserts
open Go.ChangeShapes Go.WideShapes Go.ChangeAt Go.RowKit
open Go.ChangeMaps (open_string shut_string)
set_option maxRecDepth 100000 in
theorem lifted (os : Os) (started : os.Started) (H : Type) (enc : TypeId × Value → H) :
    ReturnsInHanded {} Tryd.checked os 4 .any (fun w args => (Rows.schemeInsertsSpec.pre enc Tryd.prog Tryd.f4 [] false w args ∧ laidMetH Tryd.prog lst w) ∧ sizedMet enc Tryd.prog Tryd.f4 (OpenSpec.ofChange Rows.schemeInsertsSpec) false w args)
      (Rows.schemeInsertsSpec.post enc Tryd.prog Tryd.f4 false true false false) := by
  refine returnsInHanded_of_change_all (C := Tryd.checked) (X := fun w _ => laidMetH Tryd.prog lst w) (fun _ _ _ hh h => h.of_heap hh) own started (by kernel_rfl) Tryd.func4
    (ChangeSpec.witness_shaped (enc := enc) (C := Tryd.checked) (os := os) (X := fun w _ => laidMetH Tryd.prog lst w) false (World.laidAll Tryd.prog os lst) #[.slice none 0 0, .slice none 0 0, .string ⟨#[]⟩, .slice none 0 0] 8 (World.laidAll_os _ _ _)
      (World.shaped_of_ZipB (by kernel_rfl) (by kernel_rfl)) (by kernel_rfl) (by kernel_rfl) (by kernel_rfl)
      (by rw [MakeChecks.laidMetH_plain _ _ _ (by kernel_rfl)]; exact laidMet_laidAll _ (by kernel_rfl) (by kernel_rfl))) ?_
  intro W base args ds gs before hval0 hW hcnd hsz0 hL hsh _
  have hLV := laidL_of hL
  clear hL hsh
  have hval : ∀ (j : Nat) t v, Tryd.f4.params[j]? = some t → args[j]? = some v → Value.okWide Tryd.prog W .any base t v := hval0
  have hW' := hW
  obtain ⟨p, q, hA0, hV, rfl, hfz, hnd⟩ := hW
  have hA : DataW.TrodAll enc Tryd.prog W 0 (fun _ => true) true Tryd.f4.params.toList args.toList ds p := hA0
  rw [Tryd.params4] at hA hval
  obtain ⟨v0, vs0, d0, ds0, p0, q0, hargs, rfl, rfl, h0, r0⟩ := trodAll_cons hA
  obtain ⟨v1, vs1, d1, ds1, p1, q1, rfl, rfl, rfl, h1, r1⟩ := trodAll_cons r0
  obtain ⟨v2, vs2, d2, ds2, p2, q2, rfl, rfl, rfl, h2, r2⟩ := trodAll_cons r1
  obtain ⟨v3, vs3, d3, ds3, p3, q3, rfl, rfl, rfl, h3, r3⟩ := trodAll_cons r2
  obtain ⟨rfl, rfl, rfl⟩ := trodAll_nil r3
  obtain rfl : args = #[v0, v1, v2, v3] := by cases args; simp_all
  obtain ⟨rfl, rfl⟩ := trodVars_none hV
  have k0 := h0
  have k1 := h1
  have k3 := h3
  obtain ⟨A0, c0, s, rfl, hc0, hS, hs⟩ := open_scheme (hval 0 23 v0 rfl rfl) h0
  obtain ⟨A1, c1, d, rfl, hc1, hD, hd⟩ := open_data (hval 1 25 v1 rfl rfl) h1
  obtain ⟨nm, rfl, rfl, rfl, y2⟩ := open_string Tryd.underlying9 (hval 2 9 v2 rfl rfl) h2
  obtain ⟨A3, c3, x3, rfl, hc3, hR, hr⟩ := open_rows (hval 3 32 v3 rfl rfl) h3
  have hrl : x3.length ≤ 6000000000000 := by
    rcases arg_len Tryd.underlying32 k3 with e | ⟨els, sp, e, hl⟩
    · omega
    · subst e
      have z := sized_slice hsz0 (j := 3) (t := 32) (e := 51) rfl rfl Tryd.underlying32
      rw [show Tryd.checked.prog.bytesOf 51 = 24 by kernel_rfl, show reachBytes = 140737488351232 by decide] at z
      omega
  clear hA0 hval0 hsz0
  refine (PAll.inserts_walk A0 c0 s A1 c1 d nm A3 c3 x3 W hS hc0 hD hc1 hR hc3 hs hd hr hrl hLV).mono fun e W' ⟨he, bel⟩ => ?_
  subst he
  exact ⟨_, rfl, _, _, _, [], _, [], hW', trodAll_mk1 (shut_bool Tryd.underlying4 _), (trodAll_cons_mk (Below.trod laidOut (by kernel_rfl) (of_decide_eq_true (by kernel_rfl)) k0 bel (fun x hx => by simpa using hW'.lt x (by simp [hx])))
    (trodAll_cons_mk (Below.trod laidOut (by kernel_rfl) (of_decide_eq_true (by kernel_rfl)) k1 bel (fun x hx => by simpa using hW'.lt x (by simp [hx]))) (trodAll_cons_mk (shut_string Tryd.underlying9 y2) (trodAll_cons_mk (Below.trod laidOut (by kernel_rfl) (of_decide_eq_true (by kernel_rfl)) k3 bel (fun x hx => by simpa using hW'.lt x (by simp [hx]))) trodAll_mk0)))), rfl, bel.frame _, fun h => by cases h⟩
theorem over : Rows.schemeInsertsRow.holds Tryd.pinned (OpenSpec.ofChange Rows.schemeInsertsSpec) :=
  OpenClaim.holds_of_wide 4 Tryd.f4 rfl rfl rfl rfl rfl rfl rfl ⟨rfl, rfl, rfl, rfl, rfl⟩ rfl rfl rfl rfl rfl (by kernel_rfl) Tryd.func4 (by kernel_rfl)
    (of_decide_eq_true (by kernel_rfl)) (by unfold Func.isWrapper; first | (rw [if_pos (by decide +kernel)]; kernel_rfl) | (rw [if_neg (by decide +kernel)]; exact ⟨rfl, rfl⟩))
    (fun os started H enc _ => lifted os started H enc)
theorem card_holds : Rows.SchemeInsertsCardSaid :=
  Claim7.holds_tied_plain_at .later [] _ _ _ _ over (fun _ h => by cases h) (by kernel_rfl) (fun _ h => by cases h) schemeInserts_row_tie rfl ⟨rfl, rfl⟩ (by kernel_rfl) rfl
    (fun f fn hf hfn => by
      obtain rfl : f = 4 := Option.some.inj ((show Tryd.prog.funcNamed "jointer/jointerlaw07.SchemeInserts" = some 4 by kernel_rfl).symm.trans hf) |>.symm
      obtain rfl : fn = Tryd.f4 := (Option.some.inj (Tryd.func4.symm.trans hfn)).symm
      exact ⟨by kernel_rfl, fun j t ht => by
        rw [Tryd.params4] at ht
        have hm : t ∈ [23, 25, 9, 32] := by
          have := Array.mem_of_getElem? ht
          simpa using this
        have hall : ([23, 25, 9, 32].all fun u => !Tryd.prog.wantsStandIn u) = true := by kernel_rfl
        exact (show Tryd.prog.wantsStandIn t = false by simpa using List.all_eq_true.1 hall t hm)⟩)
    (by kernel_rfl)
#print axioms card_holds
end Go.Proofs.YthgfdnffnbclpaaDoor.schemeInserts
namespace Go.Proofs.YthgfdnffnbclpaaDoor
/-- The card, under a short name, for the claim. -/
theorem schemeInserts_card : Rows.SchemeInsertsCardSaid := schemeInserts.card_holds
end Go.Proofs.YthgfdnffnbclpaaDoor
