/- SchemeParts: rows that can be put in at once can be put in in two parts, and the other way round, with the same data in the end; then they can be deleted: the law returns true for any scheme, data, name, rows and cut. -/
import Derived.Test.YthgfdnffnbclpaaDoorQP15
import Derived.Test.YthgfdnffnbclpaaDoorQP17
set_option linter.unusedVariables false
set_option linter.unusedSimpArgs false
namespace Go.Proofs.YthgfdnffnbclpaaDoor.PAll
open Go.RowKit Go.Proofs.YthgfdnffnbclpaaDoorW.PrintWords Go.Proofs.YthgfdnffnbclpaaDoorW.PrintLast Go.Proofs.YthgfdnffnbclpaaDoorW.PrintMore Go.Proofs.YthgfdnffnbclpaaDoor
theorem insB_data (s : List S49) (d : Data) (nm : ByteArray) (rows : Rows) : (insB s d nm rows).1 = [] ∨ ∃ n : Nat, (insB s d nm rows).1 = d.set n (rd_L13 d (n : Int) ++ rows) := by
  unfold insB insAtB
  split
  · split
    · split
      · split
        · exact .inl rfl
        · split
          · split
            · exact .inr ⟨_, rfl⟩
            · exact .inl rfl
          · exact .inl rfl
      · exact .inl rfl
    · exact .inl rfl
  · exact .inl rfl
theorem insB_wf {s : List S49} {d : Data} {nm : ByteArray} {rows : Rows} (hd : wfData d) (hr : wfRows rows) : wfData (insB s d nm rows).1 := by
  rcases insB_data s d nm rows with e | ⟨n, e⟩
  · rw [e]; intro rows hr; cases hr
  · rw [e]
    intro rows' hr' row hw x hx
    rcases List.mem_or_eq_of_mem_set hr' with h | h
    · exact hd _ h row hw x hx
    · rw [h] at hw
      rcases List.mem_append.1 hw with hw | hw
      · by_cases q : n < d.length
        · rw [rdL13 q] at hw; exact hd _ (List.getElem_mem q) row hw x hx
        · unfold rd_L13 at hw
          rw [List.getD_eq_getElem?_getD, List.getElem?_eq_none (by omega)] at hw
          cases hw
      · exact hr row hw x hx
theorem parts_walk (A0 : Option Addr) (c0 : Nat) (s : List S49) (A1 : Option Addr) (c1 : Nat) (d : Data) (nm : ByteArray) (A3 : Option Addr) (c3 : Nat) (rows : Rows) (a4 : Int) (w : World)
    (hS : Kd.C k49 w A0 s.length s) (hc0 : s.length ≤ c0) (hD : Kd.C (Kd.slice 51 (Kd.slice 64 k64)) w A1 d.length d) (hc1 : d.length ≤ c1) (hR : Kd.C (Kd.slice 64 k64) w A3 rows.length rows) (hc3 : rows.length ≤ c3)
    (hs : ∀ t ∈ s, okT t) (hd : ∀ rows ∈ d, rows.length ≤ maxLen ∧ ∀ row ∈ rows, okRow row) (hr : ∀ row ∈ rows, okRow row) (hrl : rows.length ≤ 6000000000000) (ha : 0 ≤ a4 ∧ a4 ≤ 255) (hL : LaidL w) :
    Calls Tryd.prog 6 #[.slice A0 s.length c0, .slice A1 d.length c1, .string nm, .slice A3 rows.length c3, .int .u8 a4] w fun e w' => e = .returned (.bool true) ∧ Below w.heap.size w w' := by
  have hw : ∀ t ∈ s, wfT t := fun t ht => wfT_of (hs t ht)
  obtain ⟨j, hj⟩ : ∃ j, j = min a4.toNat rows.length := ⟨_, rfl⟩
  obtain ⟨K0, h0⟩ := valid_is s hw
  obtain ⟨K1, h1⟩ := insert_is s hw d nm rows
  obtain ⟨K2, h2⟩ := insert_is s hw d nm (rows.take j)
  obtain ⟨K3, h3⟩ := insert_is s hw (insB s d nm (rows.take j)).1 nm (rows.drop j)
  obtain ⟨K4, h4⟩ := data_is s hw d
  obtain ⟨K5, h5⟩ := data_is s hw (insB s d nm (rows.take j)).1
  obtain ⟨K6, h6⟩ := data_is s hw (insB s d nm rows).1
  obtain ⟨K7, h7⟩ := find_is s hw nm
  have hwr := wfRows_of hr
  have hwd := wfData_of hd
  have hwr1 : wfRows (rows.take j) := fun row h => hwr row (List.mem_of_mem_take h)
  have hwr2 : wfRows (rows.drop j) := fun row h => hwr row (List.mem_of_mem_drop h)
  have key : ∃ k, K0 + K1 + K2 + K3 + K4 + K5 + K6 + K7 ≤ k ∧ PartsCase k s d nm rows (insB s d nm rows).1 (insB s d nm rows).2 (insB s d nm (rows.take j)).1 (insB s d nm (rows.take j)).2 (insB s (insB s d nm (rows.take j)).1 nm (rows.drop j)).1 (insB s (insB s d nm (rows.take j)).1 nm (rows.drop j)).2 := by
    rcases parts_is s d nm rows j with ⟨g1, g2, g3, g4⟩ | ⟨g1, g2, g3, g4, g5⟩ | ⟨g1, g2, g3, g4, n, g5, g6, g7, g8, g9⟩
    · exact ⟨_, Nat.le_refl _, .inl ⟨by rw [g1, g3], g2, g4⟩⟩
    · exact ⟨_, Nat.le_refl _, .inr (.inl ⟨by rw [g1, g4], g2, g3, g5⟩)⟩
    · obtain ⟨K8, h8⟩ := delete_is s hw (insB s d nm rows).1 nm (goneB (rd_L13 d (n : Int)).length ((rd_L13 d (n : Int)).length + rows.length))
      have hl := ((data_iff s d).1 g4).2.1
      have hx : rd_L13 (insB s d nm rows).1 (n : Int) = rd_L13 d (n : Int) ++ rows := by rw [g7, rd13_set (by omega), if_pos rfl]
      have ht := (((data_iff s _).1 g8).2.2 n g5).1
      rw [← g7, hx] at ht
      refine ⟨K0 + K1 + K2 + K3 + K4 + K5 + K6 + K7 + K8, by omega, .inr (.inr ⟨by rw [g3], g1, g2, by rw [g3], by rw [g7, List.length_set], n, by omega, by rw [hx, List.length_append], by rw [hx]; exact ht, ?_, ?_⟩)⟩
      · have := h7 (K0 + K1 + K2 + K3 + K4 + K5 + K6 + K7 + K8) (by omega); simp only at this; rw [this, g6]
      · have := h8 (K0 + K1 + K2 + K3 + K4 + K5 + K6 + K7 + K8) (by omega); simp only at this; rw [this, g9]
  obtain ⟨k, hk, hc⟩ := key
  have hval : ∀ d', dataP k s d' = some true → validB s = true := fun d' h => by
    unfold dataP at h
    have e : scheme_Valid.f k s = some (validB s) := h0 k (by omega)
    rw [e, Option.bind_some] at h
    cases hv : validB s with
    | true => rfl
    | false => rw [hv] at h; cases h
  have sm : ∀ (d' : Data) (K : Nat), (∀ k', K ≤ k' → dataP k' s d' = some (dataB s d')) → K ≤ k → dataP k s d' = some true → smallData d' := fun d' K h hK hd => small_of (by rw [h k hK] at hd; exact Option.some.inj hd)
  exact parts_law k A0 c0 s A1 c1 d nm A3 c3 rows a4 j (insB s d nm rows).1 (insB s d nm rows).2 (insB s d nm (rows.take j)).1 (insB s d nm (rows.take j)).2 (insB s (insB s d nm (rows.take j)).1 nm (rows.drop j)).1 (insB s (insB s d nm (rows.take j)).1 nm (rows.drop j)).2 w
    hS hc0 hD hc1 hR hc3 ha hj hwd (insB_wf hwd hwr1) (insB_wf hwd hwr) hwr hwr1 hwr2 (sm d K4 h4 (by omega)) (sm _ K5 h5 (by omega)) (sm _ K6 h6 (by omega)) hrl
    (fun d' rows' h p he hl => by
      have hr : findP nm 0 s < (s.length : Int) := by have := findP_range nm s 0; omega
      have e : findP nm 0 s = ((findP nm 0 s).toNat : Int) := by omega
      rw [e] at he
      exact smallRows_of (hval d' h) (by omega) he hl) hL (h1 k (by omega)) (h2 k (by omega)) (h3 k (by omega)) hc
end Go.Proofs.YthgfdnffnbclpaaDoor.PAll
namespace Go.Proofs.YthgfdnffnbclpaaDoor.schemeParts
open Go.ChangeShapes Go.WideShapes Go.ChangeAt Go.RowKit
open Go.ChangeMaps (open_string shut_string)
set_option maxRecDepth 100000 in
theorem lifted (os : Os) (started : os.Started) (H : Type) (enc : TypeId × Value → H) :
    ReturnsInHanded {} Tryd.checked os 6 .any (fun w args => (Rows.schemePartsSpec.pre enc Tryd.prog Tryd.f6 [] false w args ∧ laidMetH Tryd.prog lst w) ∧ sizedMet enc Tryd.prog Tryd.f6 (OpenSpec.ofChange Rows.schemePartsSpec) false w args)
      (Rows.schemePartsSpec.post enc Tryd.prog Tryd.f6 false true false false) := by
  refine returnsInHanded_of_change_all (C := Tryd.checked) (X := fun w _ => laidMetH Tryd.prog lst w) (fun _ _ _ hh h => h.of_heap hh) own started (by kernel_rfl) Tryd.func6
    (ChangeSpec.witness_shaped (enc := enc) (C := Tryd.checked) (os := os) (X := fun w _ => laidMetH Tryd.prog lst w) false (World.laidAll Tryd.prog os lst) #[.slice none 0 0, .slice none 0 0, .string ⟨#[]⟩, .slice none 0 0, .int .u8 0] 8 (World.laidAll_os _ _ _)
      (World.shaped_of_ZipB (by kernel_rfl) (by kernel_rfl)) (by kernel_rfl) (by kernel_rfl) (by kernel_rfl)
      (by rw [MakeChecks.laidMetH_plain _ _ _ (by kernel_rfl)]; exact laidMet_laidAll _ (by kernel_rfl) (by kernel_rfl))) ?_
  intro W base args ds gs before hval0 hW hcnd hsz0 hL hsh _
  have hLV := laidL_of hL
  clear hL hsh
  have hval : ∀ (j : Nat) t v, Tryd.f6.params[j]? = some t → args[j]? = some v → Value.okWide Tryd.prog W .any base t v := hval0
  have hW' := hW
  obtain ⟨p, q, hA0, hV, rfl, hfz, hnd⟩ := hW
  have hA : DataW.TrodAll enc Tryd.prog W 0 (fun _ => true) true Tryd.f6.params.toList args.toList ds p := hA0
  rw [Tryd.params6] at hA hval
  obtain ⟨v0, vs0, d0, ds0, p0, q0, hargs, rfl, rfl, h0, r0⟩ := trodAll_cons hA
  obtain ⟨v1, vs1, d1, ds1, p1, q1, rfl, rfl, rfl, h1, r1⟩ := trodAll_cons r0
  obtain ⟨v2, vs2, d2, ds2, p2, q2, rfl, rfl, rfl, h2, r2⟩ := trodAll_cons r1
  obtain ⟨v3, vs3, d3, ds3, p3, q3, rfl, rfl, rfl, h3, r3⟩ := trodAll_cons r2
  obtain ⟨v4, vs4, d4, ds4, p4, q4, rfl, rfl, rfl, h4, r4⟩ := trodAll_cons r3
  obtain ⟨rfl, rfl, rfl⟩ := trodAll_nil r4
  obtain rfl : args = #[v0, v1, v2, v3, v4] := by cases args; simp_all
  obtain ⟨rfl, rfl⟩ := trodVars_none hV
  have k0 := h0
  have k1 := h1
  have k3 := h3
  obtain ⟨A0, c0, s, rfl, hc0, hS, hs⟩ := open_scheme (hval 0 23 v0 rfl rfl) h0
  obtain ⟨A1, c1, d, rfl, hc1, hD, hd⟩ := open_data (hval 1 25 v1 rfl rfl) h1
  obtain ⟨nm, rfl, rfl, rfl, y2⟩ := open_string Tryd.underlying9 (hval 2 9 v2 rfl rfl) h2
  obtain ⟨A3, c3, x3, rfl, hc3, hR, hr⟩ := open_rows (hval 3 32 v3 rfl rfl) h3
  obtain ⟨a4, rfl, rfl, rfl, w4⟩ := open_int Tryd.underlying5 (hval 4 5 v4 rfl rfl) h4
  have ha : 0 ≤ a4 ∧ a4 ≤ 255 := by
    simpa [Lit.wf, IntKind.min, IntKind.max, IntKind.bits, IntKind.signed] using w4
  have hrl : x3.length ≤ 6000000000000 := by
    rcases arg_len Tryd.underlying32 k3 with e | ⟨els, sp, e, hl⟩
    · omega
    · subst e
      have z := sized_slice hsz0 (j := 3) (t := 32) (e := 51) rfl rfl Tryd.underlying32
      rw [show Tryd.checked.prog.bytesOf 51 = 24 by kernel_rfl, show reachBytes = 140737488351232 by decide] at z
      omega
  clear hA0 hval0 hsz0
  refine (PAll.parts_walk A0 c0 s A1 c1 d nm A3 c3 x3 a4 W hS hc0 hD hc1 hR hc3 hs hd hr hrl ha hLV).mono fun e W' ⟨he, bel⟩ => ?_
  subst he
  exact ⟨_, rfl, _, _, _, [], _, [], hW', trodAll_mk1 (shut_bool Tryd.underlying4 _), (trodAll_cons_mk (Below.trod laidOut (by kernel_rfl) (of_decide_eq_true (by kernel_rfl)) k0 bel (fun x hx => by simpa using hW'.lt x (by simp [hx])))
    (trodAll_cons_mk (Below.trod laidOut (by kernel_rfl) (of_decide_eq_true (by kernel_rfl)) k1 bel (fun x hx => by simpa using hW'.lt x (by simp [hx]))) (trodAll_cons_mk (shut_string Tryd.underlying9 y2) (trodAll_cons_mk (Below.trod laidOut (by kernel_rfl) (of_decide_eq_true (by kernel_rfl)) k3 bel (fun x hx => by simpa using hW'.lt x (by simp [hx]))) (trodAll_cons_mk (shut_int Tryd.underlying5 w4) trodAll_mk0))))), rfl, bel.frame _, fun h => by cases h⟩
theorem over : Rows.schemePartsRow.holds Tryd.pinned (OpenSpec.ofChange Rows.schemePartsSpec) :=
  OpenClaim.holds_of_wide 6 Tryd.f6 rfl rfl rfl rfl rfl rfl rfl ⟨rfl, rfl, rfl, rfl, rfl⟩ rfl rfl rfl rfl rfl (by kernel_rfl) Tryd.func6 (by kernel_rfl)
    (of_decide_eq_true (by kernel_rfl)) (by unfold Func.isWrapper; first | (rw [if_pos (by decide +kernel)]; kernel_rfl) | (rw [if_neg (by decide +kernel)]; exact ⟨rfl, rfl⟩))
    (fun os started H enc _ => lifted os started H enc)
theorem card_holds : Rows.SchemePartsCardSaid :=
  Claim7.holds_tied_plain_at .later [] _ _ _ _ over (fun _ h => by cases h) (by kernel_rfl) (fun _ h => by cases h) schemeParts_row_tie rfl ⟨rfl, rfl⟩ (by kernel_rfl) rfl
    (fun f fn hf hfn => by
      obtain rfl : f = 6 := Option.some.inj ((show Tryd.prog.funcNamed "jointer/jointerlaw07.SchemeParts" = some 6 by kernel_rfl).symm.trans hf) |>.symm
      obtain rfl : fn = Tryd.f6 := (Option.some.inj (Tryd.func6.symm.trans hfn)).symm
      exact ⟨by kernel_rfl, fun j t ht => by
        rw [Tryd.params6] at ht
        have hm : t ∈ [23, 25, 9, 32, 5] := by
          have := Array.mem_of_getElem? ht
          simpa using this
        have hall : ([23, 25, 9, 32, 5].all fun u => !Tryd.prog.wantsStandIn u) = true := by kernel_rfl
        exact (show Tryd.prog.wantsStandIn t = false by simpa using List.all_eq_true.1 hall t hm)⟩)
    (by kernel_rfl)
#print axioms card_holds
end Go.Proofs.YthgfdnffnbclpaaDoor.schemeParts
namespace Go.Proofs.YthgfdnffnbclpaaDoor
/-- The card, under a short name, for the claim. -/
theorem schemeParts_card : Rows.SchemePartsCardSaid := schemeParts.card_holds
end Go.Proofs.YthgfdnffnbclpaaDoor
