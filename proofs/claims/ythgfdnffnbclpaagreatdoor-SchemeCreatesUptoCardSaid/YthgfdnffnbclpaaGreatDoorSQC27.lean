import Derived.Test.YthgfdnffnbclpaaGreatDoorSQC25
import Derived.Test.YthgfdnffnbclpaaGreatDoorSQC26
import Derived.Test.YthgfdnffnbclpaaGreatDoorSQC18
import Derived.Test.YthgfdnffnbclpaaGreatDoorSQC14
import Derived.Test.YthgfdnffnbclpaaGreatDoorSQC13
import Derived.Test.YthgfdnffnbclpaaGreatDoorSQC17
import Derived.Test.YthgfdnffnbclpaaGreatDoorSQC24
set_option linter.unusedVariables false
set_option linter.unusedSimpArgs false
namespace Go.Proofs.YthgfdnffnbclpaaGreatDoor.PAll
open Go.RowKit Go.Proofs.YthgfdnffnbclpaaGreatDoorW.PrintWords Go.Proofs.YthgfdnffnbclpaaGreatDoorW.PrintLast Go.Proofs.YthgfdnffnbclpaaGreatDoorW.PrintMore
theorem zkE {rr : List S75 × Int} {n k : Int} {W : World} {b0 b1 : Nat} {v : Value} (h : ∃ r : S75, rr.1 = [r] ∧ n = r.f1 ∧ k = r.f2 ∧ (Kd.int .i64).R 3 W b1 (fun _ => True) v r.f0) (hb : b0 ≤ b1) : ∃ r : S75, rr.1 = [r] ∧ n = r.f1 ∧ k = r.f2 ∧ (Kd.int .i64).R 3 W b0 (fun _ => True) v r.f0 := by
 obtain ⟨r, h1, h2, h3, h4⟩ := h
 exact ⟨r, h1, h2, h3, Kd.R_lower h4 hb⟩
set_option maxHeartbeats 4000000 in
set_option maxRecDepth 100000 in
theorem zen (A0 : Option Addr) (c0 : Nat) (s : List S49) (A1 : Option Addr) (c1 : Nat) (d : Data) (nm : ByteArray) (A3 : Option Addr) (c3 : Nat) (defs : List S109) (A4 : Option Addr) (c4 : Nat) (keys : List (List ByteArray)) (A5 : Option Addr) (c5 : Nat) (refs : List S105) (v : Bool) (w : World)
    (hS : Kd.C k49 w A0 s.length s) (hc0 : s.length ≤ c0) (hD : Kd.C (Kd.slice 89 (Kd.slice 87 k64)) w A1 d.length d) (hc1 : d.length ≤ c1)
    (h3 : Kd.C k109 w A3 defs.length defs) (hc3 : defs.length ≤ c3) (h4 : Kd.C (Kd.slice 9 Kd.string) w A4 keys.length keys) (hc4 : keys.length ≤ c4) (h5 : Kd.C k105 w A5 refs.length refs) (hc5 : refs.length ≤ c5)
    (hwd : zcr d) (hv : zcm s d = some v) (hrv : v = true → za5 s = some true) (hsd : v = true → zaJ d ∧ zbw s ∧ s.length ≤ 16)
    (hb4 : ∀ l ∈ keys, l.length ≤ 2000000) (hb5 : ∀ r ∈ refs, r.f0.length ≤ 2000000 ∧ r.f2.length ≤ 2000000) :
    Calls Tryz.prog 17 #[.slice A0 s.length c0, .slice A1 d.length c1, .string nm, .slice A3 defs.length c3, .slice A4 keys.length c4, .slice A5 refs.length c5] w fun e w' => ∃ v0 v1 : Value, e = .returned (.tuple #[v0, v1, .int .i64 (createP v s d nm defs keys refs).2.2]) ∧ k49.R 72 w' w.heap.size (fun _ => True) v0 (createP v s d nm defs keys refs).1 ∧ (Kd.slice 89 (Kd.slice 87 k64)).R 41 w' w.heap.size (fun _ => True) v1 (createP v s d nm defs keys refs).2.1 ∧ Below w.heap.size w w' := by
  have HV := Aside0.mk (zfD A0 c0 s A1 c1 d v w hS hc0 hD hc1 hwd hv)
  have HN : Aside0 (∀ W, Below w.heap.size w W → Calls Tryz.prog 48 #[.string nm] W fun e w' => e = .returned (.bool (nmB nm)) ∧ Below W.heap.size W w') := ⟨fun W hW => za9 nm W⟩
  have HP : Aside0 (∀ W, Below w.heap.size w W → Calls Tryz.prog 49 #[.slice A3 defs.length c3, .slice A4 keys.length c4, .slice A5 refs.length c5] W fun e w' => e = .returned (.bool (partsB defs keys refs)) ∧ Below W.heap.size W w') := ⟨fun W hW => zfo A3 c3 defs A4 c4 keys A5 c5 refs W (Kd.C_below h3 hW) hc3 (Kd.C_below h4 hW) hc4 (Kd.C_below h5 hW) hc5⟩
  have HS := Aside0.mk hS
  have HDT := Aside0.mk hD
  have HD3 := Aside0.mk h3
  have HK4 := Aside0.mk h4
  have HR5 := Aside0.mk h5
  have HB4 := Aside0.mk hb4
  have HB5 := Aside0.mk hb5
  have HRV := Aside0.mk hrv
  have HSD := Aside0.mk hsd
  have HWP := Aside0.mk (zg3 v nm defs keys refs)
  have HPA : Aside0 (partsB defs keys refs = true → ∀ x ∈ defs, defB x = true) := ⟨fun h => by unfold partsB at h; rw [Bool.and_eq_true] at h; exact List.all_eq_true.1 h.1⟩
  generalize hPR : createP v s d nm defs keys refs = PR at *
  have HPR := Aside0.mk hPR
  have ls := hS.2.1
  have l3 := h3.2.1
  have l4 := h4.2.1
  have l5 := h5.2.1
  clear hS hD h3 h4 h5 hwd hv hrv hsd hb4 hb5 hPR
  have herr : ∀ (W : World) (E : Int), Below w.heap.size w W → PR = ([], [], E) → ∃ v0 v1 : Value, Ending.returned (.tuple #[.slice none 0 0, .slice none 0 0, .int .i64 E]) = Ending.returned (.tuple #[v0, v1, .int .i64 PR.2.2]) ∧ k49.R 72 W w.heap.size (fun _ => True) v0 PR.1 ∧ (Kd.slice 89 (Kd.slice 87 k64)).R 41 W w.heap.size (fun _ => True) v1 PR.2.1 ∧ Below w.heap.size w W := fun W E hW hR => by
    rw [hR]
    exact ⟨_, _, rfl, Kd.R_nil _ _ _ _ _, Kd.R_nil _ _ _ _ _, hW⟩
  have HERR := Aside0.mk herr
  clear herr
  by_cases hwr : zbF v nm defs keys refs = true
  · have HE : Aside0 (PR = ([], [], 1)) := ⟨by rw [← HPR.out]; exact zbT (ziR hwr) (by decide)⟩
    rw [HWP.out] at hwr
    clear HPA HRV HSD HPR HB4 HB5
    generalize nmB nm = b2 at *
    generalize partsB defs keys refs = b3 at *
    cases v <;> cases b2 <;> cases b3
    all_goals first
      | (exfalso; revert hwr; decide)
      | (clear hwr
         go_enter Tryz.func17, Tryz.ntmps17
         go_wp2_with (first
           | (go_at_call 30; refine HV.out.mono ?_; rintro e w1 ⟨rfl, hb1⟩)
           | (go_at_call 48; refine (HN.out _ hb1).mono ?_; rintro e w2 ⟨rfl, hb2⟩)
           | (go_at_call 49; refine (HP.out _ (below_step hb1 hb2)).mono ?_; rintro e w3 ⟨rfl, hb3⟩))
         go_ret3
         first | exact HERR.out _ _ (below_step (below_step hb1 hb2) hb3) HE.out | exact HERR.out _ _ (below_step hb1 hb2) HE.out | exact HERR.out _ _ hb1 HE.out)
  have hwf : zbF v nm defs keys refs = false := by simpa using hwr
  have hw3 : v = true ∧ nmB nm = true ∧ partsB defs keys refs = true := by
    have h := hwf
    rw [HWP.out] at h
    revert h
    cases v <;> cases nmB nm <;> cases partsB defs keys refs <;> decide
  have HWF := Aside0.mk hwf
  obtain ⟨hv1, hn1, hp1⟩ := hw3
  have HDB := Aside0.mk (HPA.out hp1)
  rw [hn1] at HN
  rw [hp1] at HP
  subst hv1
  obtain ⟨sm1, sm2, hs16⟩ := HSD.out rfl
  have hrv := HRV.out rfl
  have HRVT := Aside0.mk hrv
  have HSM1 := Aside0.mk sm1
  have HSM2 := Aside0.mk sm2
  obtain ⟨f1, f2⟩ := ziX nm s 0
  have HF : Aside0 (∀ W, Below w.heap.size w W → Calls Tryz.prog 31 #[.slice A0 s.length c0, .string nm] W fun e w' => e = .returned (.tuple #[.int .i64 (if findP nm 0 s < 0 then 0 else findP nm 0 s), .bool (decide (0 ≤ findP nm 0 s))]) ∧ Below W.heap.size W w') := ⟨fun W hW => zdg A0 c0 s nm _ _ W (Kd.C_below HS.out hW) hc0 (by
    unfold zdu
    rw [hrv, Option.bind_some, if_pos rfl]
    by_cases q : 0 ≤ findP nm 0 s
    · rw [f1 q, if_neg (by omega), decide_eq_true q]
    · rw [f2 q, if_pos (by omega), decide_eq_false q])⟩
  have HBG : Aside0 (bigP s defs keys refs = (((s.length : Int) == 16) || (decide ((8 : Int) < (defs.length : Int)) || (decide ((4 : Int) < (keys.length : Int)) || decide ((4 : Int) < (refs.length : Int)))))) := ⟨by
    unfold bigP
    have e1 : ((s.length : Int) == 16) = decide (16 ≤ s.length) := by
      rw [Bool.eq_iff_iff, beq_iff_eq, decide_eq_true_eq]; omega
    have e2 : decide ((8 : Int) < (defs.length : Int)) = decide (8 < defs.length) := by congr 1; simp; omega
    have e3 : decide ((4 : Int) < (keys.length : Int)) = decide (4 < keys.length) := by congr 1; simp; omega
    have e4 : decide ((4 : Int) < (refs.length : Int)) = decide (4 < refs.length) := by congr 1; simp; omega
    rw [e1, e2, e3, e4]⟩
  clear hwr hwf hn1 hp1 HWP HPA HRV HSD sm1 sm2 hrv f1 f2
  go_enter Tryz.func17, Tryz.ntmps17
  go_upto_region 4 with (first
    | (go_at_call 30; refine HV.out.mono ?_; rintro e w1 ⟨rfl, hb1⟩)
    | (go_at_call 48; refine (HN.out _ hb1).mono ?_; rintro e w2 ⟨rfl, hb2⟩)
    | (go_at_call 49; refine (HP.out _ (below_step hb1 hb2)).mono ?_; rintro e w3 ⟨rfl, hb3⟩)
    | (go_at_call 31; refine (HF.out _ (below_step (below_step hb1 hb2) hb3)).mono ?_; rintro e w4 ⟨rfl, hb4⟩; have HB := Aside0.mk (below_step (below_step (below_step hb1 hb2) hb3) hb4)))
  clear hb1 hb2 hb3 hb4 HV HN HP HF
  by_cases hf : 0 ≤ findP nm 0 s
  · have HE : Aside0 (PR = ([], [], 70)) := ⟨by rw [← HPR.out]; exact zbT (zji HWF.out hf) (by decide)⟩
    have d1 : decide (0 ≤ findP nm 0 s) = true := decide_eq_true hf
    clear HPR
    go_wp2
    go_ret3
    exact HERR.out _ _ HB.out HE.out
  have d1 : decide (0 ≤ findP nm 0 s) = false := decide_eq_false hf
  go_upto_region 6 with fail
  by_cases hbg : bigP s defs keys refs = true
  · have HE : Aside0 (PR = ([], [], 72)) := ⟨by rw [← HPR.out]; exact zbT (zkS HWF.out hf hbg) (by decide)⟩
    rw [HBG.out] at hbg
    clear HPR HBG hf d1
    cases q1 : ((s.length : Int) == 16) <;> cases q2 : decide ((8 : Int) < (defs.length : Int)) <;> cases q3 : decide ((4 : Int) < (keys.length : Int)) <;> cases q4 : decide ((4 : Int) < (refs.length : Int))
    all_goals rw [q1, q2, q3, q4] at hbg
    all_goals first
      | (exfalso; revert hbg; decide)
      | (clear hbg
         go_wp2
         go_ret3
         exact HERR.out _ _ HB.out HE.out)
  have hbf : bigP s defs keys refs = false := by simpa using hbg
  have HEC := Aside0.mk (zjx (v := true) HWF.out hf hbf)
  rw [HBG.out, Bool.or_eq_false_iff, Bool.or_eq_false_iff, Bool.or_eq_false_iff] at hbf
  obtain ⟨q1, q2, q3, q4⟩ := hbf
  have hl3 : defs.length ≤ 8 := by have := of_decide_eq_false q2; omega
  have hl4 : keys.length ≤ 4 := by have := of_decide_eq_false q3; omega
  have hl5 : refs.length ≤ 4 := by have := of_decide_eq_false q4; omega
  have HCM := Aside0.mk (zhy HDB.out hl3)
  go_upto_region 8 with fail
  clear hbg q1 q2 q3 q4 hf d1 HBG HWF
  have HTW := Aside0.mk (zgC nm A3 c3 defs A4 c4 keys w4 (Kd.C_below HD3.out HB.out) hc3 (Kd.C_below HK4.out HB.out) hc4 HDB.out hl3 hl4 HB4.out)
  have HTC : Aside0 (tabR (defs.map madeC) keys = if distP [] (defs.map fun x => x.f0) = true then zbA (defs.map madeC) keys [] else ([], 70)) := ⟨by unfold tabR; rw [HCM.out]⟩
  by_cases hte : (tabR (defs.map madeC) keys).2 = 0
  case neg =>
    have HE : Aside0 (PR = ([], [], (tabR (defs.map madeC) keys).2)) := ⟨by
      rw [← HPR.out, HTC.out]
      rw [HTC.out] at hte
      by_cases q : distP [] (defs.map fun x => x.f0) = true
      · rw [if_pos q] at hte ⊢
        exact zfz (by rw [HEC.out, if_pos q]) hte
      · rw [if_neg q]
        exact zbT (by rw [HEC.out, if_neg q]) (by decide)⟩
    have d1 : ((tabR (defs.map madeC) keys).2 == 0) = false := beq_eq_false_iff_ne.mpr hte
    have d2 : ((tabR (defs.map madeC) keys).2 != 0) = true := by rw [bne, d1]; rfl
    clear HPR HEC HCM HTC hte
    generalize (tabR (defs.map madeC) keys).2 = te at *
    go_wp2_with (go_at_call 50; refine HTW.out.mono ?_; rintro e w5 ⟨nm', T1, t1, u1, T2, t2, u2, rfl, _, hb5⟩; have HB5 := Aside0.mk (below_step HB.out hb5); clear hb5)
    go_ret3
    exact HERR.out _ _ (zac HB5.out _) HE.out
  case pos =>
    have hdi : distP [] (defs.map fun x => x.f0) = true := by
      cases q : distP [] (defs.map fun x => x.f0) with
      | true => rfl
      | false =>
        have h := HTC.out
        rw [q, if_neg (by decide)] at h
        rw [h] at hte
        exact absurd hte (by decide)
    have hKF : tabR (defs.map madeC) keys = zbA (defs.map madeC) keys [] := by rw [HTC.out, if_pos hdi]
    have HPRF : Aside0 (PR = if (zbZ s (defs.map madeC) refs []).2 = 0 then (s ++ [⟨nm, defs.map madeC, (tabR (defs.map madeC) keys).1, (zbZ s (defs.map madeC) refs []).1, []⟩], d ++ [[]], 0) else ([], [], (zbZ s (defs.map madeC) refs []).2)) := ⟨by
      rw [← HPR.out, hKF]
      rw [hKF] at hte
      exact zfU (by rw [HEC.out, if_pos hdi]) hte⟩
    have d1 : ((tabR (defs.map madeC) keys).2 == 0) = true := beq_iff_eq.mpr hte
    have d2 : ((tabR (defs.map madeC) keys).2 != 0) = false := by rw [bne, d1]; rfl
    have HTE := Aside0.mk hte
    have HCL8 : Aside0 ((defs.map madeC).length = defs.length) := ⟨List.length_map _⟩
    clear HPR HEC HCM HTC hte hdi hKF HDB HD3 HK4 HB4
    generalize tabR (defs.map madeC) keys = KF at *
    generalize hRF : zbZ s (defs.map madeC) refs [] = RF at *
    have HRF := Aside0.mk hRF
    clear hRF
    generalize defs.map madeC = cols at *
    go_upto_region 11 with (go_at_call 50; refine HTW.out.mono ?_; rintro e w5 ⟨nm', B1, l1, b1, B2, l2, b2, rfl, him, hb5⟩; obtain ⟨hnm, hr1, hr2⟩ := him HTE.out; have hnm2 := hnm.symm; clear hnm; subst hnm2; obtain ⟨T1', c1', e1'⟩ := Kd.R_slice hr1; injection e1' with e1a e1b e1c; subst e1b; obtain ⟨T2', c2', e2'⟩ := Kd.R_slice hr2; injection e2' with e2a e2b e2c; subst e2b; have HR1 := Aside0.mk (Kd.R_lower hr1 HB.out.size); have HR2 := Aside0.mk (Kd.R_lower hr2 HB.out.size); have HB5 := Aside0.mk (below_step HB.out hb5); clear hb5 hr1 hr2 him e1a e1c e2a e2c)
    obtain ⟨g, hg⟩ : ∃ g, g = w5.heap.size := ⟨_, rfl⟩
    obtain ⟨W6, hW6⟩ : ∃ W, W = w5.alloc (Obj.cells #[.string nm, .slice B1 cols.length b1, .slice B2 KF.1.length b2, .slice none 0 0, .slice none 0 0] 72) := ⟨_, rfl⟩
    have hbg6 : W6.heap[g]? = some (.cells #[.string nm, .slice B1 cols.length b1, .slice B2 KF.1.length b2, .slice none 0 0, .slice none 0 0] 72 (0, 0)) := by rw [hW6, hg]; exact Go.Deep.blk_alloc_new _ _
    have hb56 : Below w5.heap.size w5 W6 := by rw [hW6]; exact (Below.refl _ _).alloc (Nat.le_refl _) _
    have HG : Aside0 (w.heap.size ≤ g) := ⟨by rw [hg]; exact HB5.out.size⟩
    rw [← hW6, ← hg]
    have HBK := Aside0.mk hbg6
    have HBL := Aside0.mk (below_step HB5.out hb56)
    have H1 := Aside0.mk (Kd.R_below HR1.out hb56)
    have H2 := Aside0.mk (Kd.R_below HR2.out hb56)
    have H30 : Aside0 (k75.R 75 W6 w.heap.size (fun _ => True) (.slice none 0 0) []) := ⟨Kd.R_nil _ _ _ _ _⟩
    have HRF0 : Aside0 (RF = zbZ s cols (refs.drop 0) []) := ⟨by rw [List.drop_zero]; exact HRF.out.symm⟩
    clear hW6 hg hbg6 hb56 HR1 HR2 HB5 HB HTW d1 d2 HRF
    go_wp2_with fail
    go_loopg [19] refs.length (fun gk v19 wx => ∃ (i : Nat) (vr : Value) (rs : List S75), i + gk = refs.length ∧ v19 = .int .i64 i ∧ Aside0 (wx.heap[g]? = some (.cells #[.string nm, .slice B1 cols.length b1, .slice B2 KF.1.length b2, vr, .slice none 0 0] 72 (0, 0))) ∧ Aside0 (k78.R 83 wx w.heap.size (fun _ => True) (.slice B1 cols.length b1) cols) ∧ Aside0 ((Kd.slice 3 (Kd.int .i64)).R 70 wx w.heap.size (fun _ => True) (.slice B2 KF.1.length b2) KF.1) ∧ Aside0 (k75.R 75 wx w.heap.size (fun _ => True) vr rs) ∧ Aside0 (Below w.heap.size w wx) ∧ Aside0 (rs.length ≤ i) ∧ Aside0 (RF = zbZ s cols (refs.drop i) rs))
    case atStart => exact ⟨0, _, [], by omega, rfl, HBK, H1, H2, H30, HBL, ⟨Nat.le_refl _⟩, HRF0⟩
    case round =>
      clear HBK H1 H2 H30 HBL HRF0
      obtain ⟨i, vr, rs, hi, rfl, HBK, H1, H2, H3, HBL, HRL, HRF⟩ := hrel
      obtain ⟨B3, b3, e3⟩ := Kd.R_slice H3.out
      subst e3
      cases gk with
      | succ gk =>
        have hlt : i < refs.length := by omega
        have hii : (i : Int) < (refs.length : Int) := by omega
        have hi0 : (0 : Int) ≤ (i : Int) := by omega
        have hrd : zaW refs (i : Int) = refs[i] := by simp [zaW, List.getD, hlt]
        obtain ⟨ad, Ak, ck, Am, cm, hA, hx0, hx1, hx2, hl0, hC0, hl2, hC2⟩ := zd1 HR5.out (i : Int) hi0 hii
        subst hA
        rw [hrd] at hx0 hx1 hx2 hl0 hC0 hl2 hC2
        rw [Int.toNat_natCast] at hx0 hx1 hx2
        obtain ⟨b9, b10⟩ := HB5.out _ (List.getElem_mem hlt)
        have hrf := HRF.out
        rw [List.drop_eq_getElem_cons hlt, zhI] at hrf
        have HRFS := Aside0.mk hrf
        have HRW := Aside0.mk (fun W (hW : Below wr.heap.size wr W) => zfR A0 c0 s nm B1 b1 cols B2 KF.1.length b2 B3 rs.length b3 none 0 0 Ak ck Am cm refs[i] W (Kd.C_below HS.out (below_step HBL.out hW)) hc0 HRVT.out (Kd.C_below (Kd.R_reads' H1.out).2.2 hW) (Kd.R_reads' H1.out).2.1 (Kd.C_below hC0 (below_step HBL.out hW)) hl0 (Kd.C_below hC2 (below_step HBL.out hW)) hl2 b9 b10)
        have HKS : Aside0 (∀ W, Below wr.heap.size wr W → W.cell? ⟨g, 0, none⟩ = some (.string nm) ∧ W.cell? ⟨g, 1, none⟩ = some (.slice B1 cols.length b1) ∧ W.cell? ⟨g, 2, none⟩ = some (.slice B2 KF.1.length b2) ∧ W.cell? ⟨g, 3, none⟩ = some (.slice B3 rs.length b3) ∧ W.cell? ⟨g, 4, none⟩ = some (.slice none 0 0) ∧ W.cell? (ad.add (i * 3)) = some (.slice Ak refs[i].f0.length ck) ∧ W.cell? ⟨(ad.add (i * 3)).block, (ad.add (i * 3)).off + 1, none⟩ = some (.string refs[i].f1) ∧ W.cell? ⟨(ad.add (i * 3)).block, (ad.add (i * 3)).off + 2, none⟩ = some (.slice Am refs[i].f2.length cm)) := ⟨fun W hW => by
          obtain ⟨z0, z1, z2, z3, z4, _⟩ := zaT ((hW.block _ (zah HBK.out)).trans HBK.out)
          have h := below_step HBL.out hW
          exact ⟨z0, z1, z2, z3, z4, (h.cell (World.block_lt_of_cell? w _ hx0)).trans hx0, (h.cell (World.block_lt_of_cell? w _ hx1)).trans hx1, (h.cell (World.block_lt_of_cell? w _ hx2)).trans hx2⟩⟩
        have HBd := Aside0.mk (zab (Below.refl wr.heap.size wr))
        obtain ⟨z0, z1, z2, z3, z4, z5, z6, z7⟩ := HKS.out _ HBd.out
        clear hrd hx0 hx1 hx2 hC0 hC2 hrf HRF b9 b10
        generalize hrr : (refS s cols [] refs[i]) = rr at *
        clear hrr
        generalize refs[i] = l at *
        go_upto_region 14 with fail
        go_cut [20, 21] (fun s20 s21 wx => ∃ (G2 : Nat) (T0 : Option Addr) (t0 u0 : Nat) (n k : Int), s20 = .pointer (some ⟨G2, 0, none⟩) ∧ s21 = .int .i64 rr.2 ∧ Aside0 (wx.heap[G2]? = some (.cells #[.slice T0 t0 u0, .int .i64 n, .int .i64 k] 75 (0, 0))) ∧ Aside0 (Below wr.heap.size wr wx) ∧ Aside0 (wr.heap.size ≤ G2) ∧ Aside0 (rr.2 = 0 → ∃ r : S75, rr.1 = [r] ∧ n = r.f1 ∧ k = r.f2 ∧ (Kd.int .i64).R 3 wx wr.heap.size (fun _ => True) (.slice T0 t0 u0) r.f0))
        case first =>
          go_region_held3 (fun W => W.cell? ⟨g, 0, none⟩ = some (.string nm) ∧ W.cell? ⟨g, 1, none⟩ = some (.slice B1 cols.length b1) ∧ W.cell? ⟨g, 2, none⟩ = some (.slice B2 KF.1.length b2) ∧ W.cell? ⟨g, 3, none⟩ = some (.slice B3 rs.length b3) ∧ W.cell? ⟨g, 4, none⟩ = some (.slice none 0 0) ∧ W.cell? (ad.add (i * 3)) = some (.slice Ak l.f0.length ck) ∧ W.cell? ⟨(ad.add (i * 3)).block, (ad.add (i * 3)).off + 1, none⟩ = some (.string l.f1) ∧ W.cell? ⟨(ad.add (i * 3)).block, (ad.add (i * 3)).off + 2, none⟩ = some (.slice Am l.f2.length cm)) (exact HKS.out _ (by repeat' (first | with_reducible exact Below.refl _ _ | with_reducible exact HBC.out | with_reducible exact HBd.out | with_reducible refine zac ?_ _ | with_reducible refine dal ?_ | with_reducible refine zdM ?_ (Nat.le_refl _) _ _ _))) ((go_at_call 51; refine (HRW.out _ (by repeat' (first | with_reducible exact Below.refl _ _ | with_reducible exact HBC.out | with_reducible exact HBd.out | with_reducible refine zac ?_ _ | with_reducible refine dal ?_ | with_reducible refine zdM ?_ (Nat.le_refl _) _ _ _))).mono ?_; rintro e w6 ⟨T0, t0, u0, n, k, rfl, him, hb6⟩; have him2 := Aside0.mk (fun h => zkE (him h) (Below.size (w := wr) (B := wr.heap.size) (by repeat' (first | with_reducible exact Below.refl _ _ | with_reducible exact HBd.out | with_reducible refine zac ?_ _ | with_reducible refine dal ?_)))); have HBC := Aside0.mk (below_step (w := wr) (by repeat' (first | with_reducible exact Below.refl _ _ | with_reducible exact HBC.out | with_reducible exact HBd.out | with_reducible refine zac ?_ _ | with_reducible refine dal ?_ | with_reducible refine zdM ?_ (Nat.le_refl _) _ _ _)) hb6); (try (have hz := zaB (newd wr #[.slice none 0 0, .int .i64 0, .int .i64 0] 75) hb6; obtain ⟨t0_, t1_, t2_, t3_, t4_, t5_⟩ := zaH hz; have HZ := Aside0.mk hz; clear hz)); clear him))
          all_goals go_wp2_with fail
          all_goals go_meet
          · exact ⟨_, T0, t0, u0, n, k, rfl, rfl, ⟨Go.Deep.blk_alloc_new w6 _⟩, ⟨zac HBC.out _⟩, ⟨HBC.out.size⟩, ⟨fun h => by
              obtain ⟨r, a1, a2, a3, a4⟩ := him2.out h
              exact ⟨r, a1, a2, a3, Kd.R_below a4 (zac (Below.refl _ _) _)⟩⟩⟩
          · have g3 : ∀ a b c : Value, w6.grownBy (((w6.setCell ⟨wr.heap.size, 0, none⟩ a).setCell ⟨wr.heap.size, 1, none⟩ b).setCell ⟨wr.heap.size, 2, none⟩ c) (some wr.heap.size) := fun a b c => zae (zae (zaz _ _ _ _) (zaz _ _ _ _)) (zaz _ _ _ _)
            exact ⟨_, T0, t0, u0, n, k, rfl, rfl, ⟨put3 HZ.out _ _ _⟩, ⟨zdM HBC.out (Nat.le_refl _) _ _ _⟩, ⟨Nat.le_refl _⟩, ⟨fun h => by
              obtain ⟨r, a1, a2, a3, a4⟩ := him2.out h
              exact ⟨r, a1, a2, a3, zaN a4 HZ.out (by decide) (g3 _ _ _)⟩⟩⟩
        case rest =>
        obtain ⟨G2, T0, t0, u0, n, k, rfl, rfl, HG2, HBW2, HGS, HIM⟩ := hcut
        have HBC := Aside0.mk (below_step HBL.out HBW2.out)
        have HBKc := Aside0.mk ((HBW2.out.block _ (zah HBK.out)).trans HBK.out)
        have H1c := Aside0.mk (Kd.R_below H1.out HBW2.out)
        have H2c := Aside0.mk (Kd.R_below H2.out HBW2.out)
        have H3c := Aside0.mk (Kd.R_below H3.out HBW2.out)
        clear HRW HKS HBd z0 z1 z2 z3 z4 z5 z6 z7
        by_cases her : rr.2 = 0
        case neg =>
          have d1 : (rr.2 == 0) = false := beq_eq_false_iff_ne.mpr her
          have d2 : (rr.2 != 0) = true := by rw [bne, d1]; rfl
          have HE : Aside0 (PR = ([], [], rr.2)) := ⟨by
            have h := HRFS.out
            rw [if_neg her] at h
            rw [HPRF.out, h, if_neg her]⟩
          clear her HRFS HPRF
          go_wp2
          go_ret3
          exact HERR.out _ _ HBC.out HE.out
        case pos =>
          have d1 : (rr.2 == 0) = true := beq_iff_eq.mpr her
          have d2 : (rr.2 != 0) = false := by rw [bne, d1]; rfl
          obtain ⟨r, e1, e2, e3, hR⟩ := HIM.out her
          subst e2
          subst e3
          obtain ⟨T0', u0', e4⟩ := Kd.R_slice hR
          injection e4 with e4a e4b e4c
          subst e4b
          have HRFN : Aside0 (RF = zbZ s cols (refs.drop (i + 1)) (rs ++ [r])) := ⟨by
            have h := HRFS.out
            rw [if_pos her, e1] at h
            exact h⟩
          have HR0 := Aside0.mk hR
          have hrl : rs.length ≤ 4 := by have := HRL.out; omega
          obtain ⟨z0, z1, z2, z3, z4, zf⟩ := zaT HBKc.out
          obtain ⟨y0, y1, y2, y3⟩ := zaH HG2.out
          clear her e1 e4a e4c hR HRFS HIM
          go_wp2_with ((with_reducible refine zam (b := .append) (xs := #[.tmp 93, .tmp 95]) rfl ?_); at_builtin; refine Kd.R_append k75 (w0 := w) w.heap.size rfl (.tmp 93) (.tmp 95) 69 75 (.agg #[.slice none 0 0, .int .i64 0, .int .i64 0]) 40 rfl Tryz.underlying69 zhh rfl (by decide) (by omega) (.slice B3 rs.length b3) rs r [.slice T0 r.f0.length u0, .int .i64 r.f1, .int .i64 r.f2] (fun _ => True) (fun k_ => wr.heap.size ≤ k_) rfl rfl (zfn wc _ _ r (Kd.R_lower (Kd.R_mono (Kd.R_bound HR0.out) (fun k hk => hk.2.1)) HBL.out.size)) (fun k hk => ⟨trivial, fun he => by have := Kd.R_lt H3.out k he.symm; omega⟩) (fun _ _ => trivial) H3c.out HBC.out HBC.out.size (by omega) ?_; intro v9 w9 hv9 hb9 hg9 _; obtain ⟨A6, c6, e6⟩ := Kd.R_slice hv9; subst e6; have HV9 := Aside0.mk hv9; have HG9 := Aside0.mk hg9; have HB9 := Aside0.mk hb9; have HK9 := Aside0.mk (zax HBKc.out hg9 (Kd.R_ne H3c.out HBKc.out (by decide))); obtain ⟨x0, x1, x2, x3, x4, xf⟩ := zaT HK9.out; clear hv9 hg9 hb9)
          have H19 := Aside0.mk (zaN (Kd.R_over' H1c.out (Kd.R_typed H3c.out) (by decide) HG9.out) HK9.out (by decide) (zaz w9 g 3 (.slice A6 (rs ++ [r]).length c6)))
          have H29 := Aside0.mk (zaN (Kd.R_over' H2c.out (Kd.R_typed H3c.out) (by decide) HG9.out) HK9.out (by decide) (zaz w9 g 3 (.slice A6 (rs ++ [r]).length c6)))
          have H39 := Aside0.mk (zaN HV9.out HK9.out (by decide) (zaz w9 g 3 (.slice A6 (rs ++ [r]).length c6)))
          have HB99 := Aside0.mk (HB9.out.setCell (p := ⟨g, 3, none⟩) HG.out (.slice A6 (rs ++ [r]).length c6))
          have HK99 := Aside0.mk (zas HK9.out 3 (.slice A6 (rs ++ [r]).length c6) rfl)
          have hl9 : (rs ++ [r]).length = rs.length + 1 := by simp
          have HRL9 : Aside0 ((rs ++ [r]).length ≤ i + 1) := ⟨by rw [hl9]; have := HRL.out; omega⟩
          rw [hl9] at H19 H29 H39 HB99 HK99
          clear hl9
          go_roundg gk
          case measure => omega
          case rel => exact ⟨i + 1, _, rs ++ [r], by omega, by first | rfl | (simp; done) | (simp; unfold wrap64; omega), HK99, H19, H29, H39, HB99, HRL9, HRFN⟩
      | zero =>
        have hii : ¬ (i : Int) < (refs.length : Int) := by omega
        have hrf := HRF.out
        rw [List.drop_eq_nil_of_le (by omega), zbZ] at hrf
        have ers : rs = RF.1 := by rw [hrf]
        have her : RF.2 = 0 := by rw [hrf]
        subst ers
        have HPF : Aside0 (PR = (s ++ [⟨nm, cols, KF.1, RF.1, []⟩], d ++ [[]], 0)) := ⟨by rw [HPRF.out, if_pos her]⟩
        have hrl : RF.1.length ≤ 4 := by have := HRL.out; omega
        clear hrf HRF HPRF HRL her HERR
        generalize wr = wc at *
        go_upto_region 18 with fail
        have HB1 := Aside0.mk (zab HBL.out)
        have HX1 := Aside0.mk (Kd.R_drew H1.out)
        have HX2 := Aside0.mk (Kd.R_drew H2.out)
        have HX3 := Aside0.mk (Kd.R_drew H3.out)
        have HC1 := Aside0.mk (zap HBK.out)
        have HD0 : wc.drew.cell? ⟨g, 0, none⟩ = some (.string nm) ∧ wc.drew.cell? ⟨g, 1, none⟩ = some (.slice B1 cols.length b1) ∧ wc.drew.cell? ⟨g, 2, none⟩ = some (.slice B2 KF.1.length b2) ∧ wc.drew.cell? ⟨g, 3, none⟩ = some (.slice B3 RF.1.length b3) ∧ wc.drew.cell? ⟨g, 4, none⟩ = some (.slice none 0 0) := by
          obtain ⟨y0, y1, y2, y3, y4, _⟩ := zaT HC1.out
          exact ⟨y0, y1, y2, y3, y4⟩
        have hsl : s.length ≤ 2000000 := HSM2.out.1
        have hdl : d.length ≤ 2000000 := HSM1.out.1
        have KB : ∀ W, Below wc.drew.heap.size wc.drew W → (fun W => W.cell? ⟨g, 0, none⟩ = some (.string nm) ∧ W.cell? ⟨g, 1, none⟩ = some (.slice B1 cols.length b1) ∧ W.cell? ⟨g, 2, none⟩ = some (.slice B2 KF.1.length b2) ∧ W.cell? ⟨g, 3, none⟩ = some (.slice B3 RF.1.length b3) ∧ W.cell? ⟨g, 4, none⟩ = some (.slice none 0 0)) W := fun W hW => by
          obtain ⟨y0, y1, y2, y3, y4, _⟩ := zaT ((hW.block g (zah HC1.out)).trans HC1.out)
          exact ⟨y0, y1, y2, y3, y4⟩
        have HKB := Aside0.mk KB
        have HC34 : Aside0 (∀ W, Below wc.drew.heap.size wc.drew W → Calls Tryz.prog 19 #[.slice A0 s.length c0] W fun e w' => ∃ v0_ : Value, e = .returned (v0_) ∧ k49.R 72 w' wc.drew.heap.size (fun _ => True) v0_ s ∧ Below W.heap.size W w') := ⟨fun W hW => (zf4 A0 c0 s W (Kd.C_below HS.out (below_step HB1.out hW)) hc0 HSM2.out).mono fun e w' ⟨v, he, hS, hb⟩ => ⟨v, he, Kd.R_lower (Kd.S_R (S_a hS)) hW.size, hb⟩⟩
        have HC37 : Aside0 (∀ W, Below wc.drew.heap.size wc.drew W → Calls Tryz.prog 20 #[.slice A1 d.length c1] W fun e w' => ∃ v0_ : Value, e = .returned (v0_) ∧ (Kd.slice 89 (Kd.slice 87 k64)).R 41 w' wc.drew.heap.size (fun _ => True) v0_ d ∧ Below W.heap.size W w') := ⟨fun W hW => (zdo A1 c1 d W (Kd.C_below HDT.out (below_step HB1.out hW)) hc1 HSM1.out).mono fun e w' ⟨v, he, hS, hb⟩ => ⟨v, he, Kd.R_lower (Kd.S_R hS) hW.size, hb⟩⟩
        have HM : Aside0 (∀ W, Below wc.drew.heap.size wc.drew W → k49.M W w.heap.size (fun k => k < wc.drew.heap.size) ⟨nm, cols, KF.1, RF.1, []⟩ [.string nm, .slice B1 cols.length b1, .slice B2 KF.1.length b2, .slice B3 RF.1.length b3, .slice none 0 0]) := ⟨fun W hW => zgw W _ _ ⟨nm, cols, KF.1, RF.1, []⟩ (Kd.R_below (Kd.R_mono (Kd.R_bound HX1.out) (fun k hk => hk.2.2.1)) hW) (Kd.R_below (Kd.R_mono (Kd.R_bound HX2.out) (fun k hk => hk.2.2.1)) hW) (Kd.R_below (Kd.R_mono (Kd.R_bound HX3.out) (fun k hk => hk.2.2.1)) hW) (Kd.R_nil _ _ _ _ _)⟩
        clear KB HC1 HX1 HX2 HX3 H1 H2 H3 HBK HBL hii
        go_wp2
        go_region_held3 (fun W => W.cell? ⟨g, 0, none⟩ = some (.string nm) ∧ W.cell? ⟨g, 1, none⟩ = some (.slice B1 cols.length b1) ∧ W.cell? ⟨g, 2, none⟩ = some (.slice B2 KF.1.length b2) ∧ W.cell? ⟨g, 3, none⟩ = some (.slice B3 RF.1.length b3) ∧ W.cell? ⟨g, 4, none⟩ = some (.slice none 0 0)) (exact HKB.out _ (by repeat' (first | with_reducible exact Below.refl _ _ | with_reducible exact HBC124.out | with_reducible exact HBC122.out | with_reducible exact HBC34.out | with_reducible refine zac ?_ _ | with_reducible refine dal ?_))) (first
          | (go_at_call 19; refine (HC34.out _ (by repeat' (first | with_reducible exact Below.refl _ _ | with_reducible exact HBC124.out | with_reducible exact HBC122.out | with_reducible exact HBC34.out | with_reducible refine zac ?_ _ | with_reducible refine dal ?_))).mono ?_; rintro e w34 ⟨v34, rfl, hv34, hb34⟩; obtain ⟨Ax, cx, ex⟩ := Kd.R_slice hv34; subst ex; have HR34 := Aside0.mk hv34; have HB34 := Aside0.mk hb34; have HBC34 := Aside0.mk (below_step (w := wc.drew) (by repeat' (first | with_reducible exact Below.refl _ _ | with_reducible exact HBC124.out | with_reducible exact HBC122.out | with_reducible exact HBC34.out | with_reducible refine zac ?_ _ | with_reducible refine dal ?_)) hb34); clear hv34 hb34)
          | (go_at_call 20; refine (HC37.out _ (by repeat' (first | with_reducible exact Below.refl _ _ | with_reducible exact HBC124.out | with_reducible exact HBC122.out | with_reducible exact HBC34.out | with_reducible refine zac ?_ _ | with_reducible refine dal ?_))).mono ?_; rintro e w124 ⟨v124, rfl, hv124, hb124⟩; obtain ⟨Ay, cy, ey⟩ := Kd.R_slice hv124; subst ey; have HR124 := Aside0.mk hv124; have HB124 := Aside0.mk hb124; have HBC124 := Aside0.mk (below_step (w := wc.drew) (by repeat' (first | with_reducible exact Below.refl _ _ | with_reducible exact HBC124.out | with_reducible exact HBC122.out | with_reducible exact HBC34.out | with_reducible refine zac ?_ _ | with_reducible refine dal ?_)) hb124); clear hv124 hb124)
          | (refine Kd.R_append_rows_step k49 (Rr := fun p c => p = (⟨nm, cols, KF.1, RF.1, []⟩ : S49) ∧ c = [.string nm, .slice B1 cols.length b1, .slice B2 KF.1.length b2, .slice B3 RF.1.length b3, .slice none 0 0]) (w0 := w) w.heap.size (by rfl) (.tmp 99) (.tmp 101) 23 72 (.agg #[(.string ⟨#[]⟩), (.slice none 0 0), (.slice none 0 0), (.slice none 0 0), (.slice none 0 0)]) 112 rfl Tryz.underlying23 zeL rfl (by decide) (by omega) (.slice Ax s.length cx) s [(⟨nm, cols, KF.1, RF.1, []⟩ : S49)] _ 1 1 (fun _ => True) (fun k => k < wc.drew.heap.size) rfl rfl ?aO ?aR ?aK (fun k hk => ⟨trivial, fun he => by have := Kd.R_base HR34.out k he.symm; omega⟩) (fun _ _ => trivial) ?aB ?aS (by omega) ?_; (case aO => (refine Kd.R_lower (base := wc.drew.heap.size) ?_ HB1.out.size; repeat' (first | with_reducible exact HR34.out | with_reducible refine Kd.R_below ?_ (zac (Below.refl _ _) _)))); (case aR => ((with_reducible refine zcB (t := 72) (cs := [.string nm, .slice B1 cols.length b1, .slice B2 KF.1.length b2, .slice B3 RF.1.length b3, .slice none 0 0]) (⟨nm, cols, KF.1, RF.1, []⟩ : S49) ?_ ?_); rotate_left; exact sz49.symm; first | with_reducible exact Go.Deep.blk_alloc_new _ _ | with_reducible exact new2 _ _ _ _ | (with_reducible refine zaB ?_ HB34.out; first | with_reducible exact new2 _ _ _ _ | with_reducible exact newd _ _ _ | with_reducible exact zhw _ _ _ _ | with_reducible exact zhJ _ _ _ _) | (with_reducible refine zai ?_ _; with_reducible refine zaB ?_ HB34.out; first | with_reducible exact newd _ _ _ | with_reducible exact zhw _ _ _ _ | with_reducible exact zhJ _ _ _ _) | (with_reducible refine zai ?_ _; with_reducible exact Go.Deep.blk_alloc_new _ _) | (with_reducible refine zaB ?_ HB34.out; with_reducible exact Go.Deep.blk_alloc_new _ _) | (with_reducible refine zaB ?_ HB34.out; with_reducible refine zai ?_ _; with_reducible exact Go.Deep.blk_alloc_new _ _) | (with_reducible refine zai ?_ _; with_reducible refine zaB ?_ HB34.out; with_reducible exact Go.Deep.blk_alloc_new _ _) | (with_reducible refine zai ?_ _; with_reducible refine zaB ?_ HB34.out; with_reducible refine zai ?_ _; with_reducible exact Go.Deep.blk_alloc_new _ _))); (case aK => (intro p c hpc; obtain ⟨e1, e2⟩ := hpc; rw [e1, e2]; refine HM.out _ ?_; repeat' (first | with_reducible exact Below.refl _ _ | with_reducible exact HBC124.out | with_reducible exact HBC122.out | with_reducible exact HBC34.out | with_reducible refine zac ?_ _ | with_reducible refine dal ?_))); (case aB => (refine HB1.out.trans (Below.mono (B := wc.drew.heap.size) ?_ HB1.out.size); repeat' (first | with_reducible exact Below.refl _ _ | with_reducible exact HBC124.out | with_reducible exact HBC122.out | with_reducible exact HBC34.out | with_reducible refine zac ?_ _ | with_reducible refine dal ?_))); (case aS => (refine Nat.le_trans HB1.out.size (Below.size (B := wc.drew.heap.size) ?_); repeat' (first | with_reducible exact Below.refl _ _ | with_reducible exact HBC124.out | with_reducible exact HBC122.out | with_reducible exact HBC34.out | with_reducible refine zac ?_ _ | with_reducible refine dal ?_))); intro v122 w122 hv122 hb122 hg122 _; obtain ⟨Az, cz, ez⟩ := Kd.R_slice hv122; subst ez; have HR122 := Aside0.mk hv122; have HG122 := Aside0.mk hg122; have HT122 := Aside0.mk (zk6 (base := wc.drew.heap.size) (xs := s) hg122 (by repeat' (first | with_reducible exact HR34.out | with_reducible refine Kd.R_below ?_ (zac (Below.refl _ _) _)))); have HBC122 := Aside0.mk (Below.grown (B := wc.drew.heap.size) (a := wc.drew) (by repeat' (first | with_reducible exact Below.refl _ _ | with_reducible exact HBC124.out | with_reducible exact HBC122.out | with_reducible exact HBC34.out | with_reducible refine zac ?_ _ | with_reducible refine dal ?_)) hg122 (Below.size (B := wc.drew.heap.size) (w := wc.drew) (by repeat' (first | with_reducible exact Below.refl _ _ | with_reducible exact HBC124.out | with_reducible exact HBC122.out | with_reducible exact HBC34.out | with_reducible refine zac ?_ _ | with_reducible refine dal ?_))) (fun k hk => Kd.R_base HR34.out k hk)); clear hv122 hb122 hg122)
          | (refine Kd.R_append_rows_step (Kd.slice 89 (Kd.slice 87 k64)) (Rr := fun p c => p = ([] : Rows) ∧ c = [.slice none 0 0]) (w0 := w) w.heap.size (by rfl) (.tmp 104) (.tmp 105) 25 41 (.slice none 0 0) 24 rfl Tryz.underlying25 (by kernel_rfl) rfl (by decide) (by omega) (.slice Ay d.length cy) d [([] : Rows)] _ 1 1 (fun _ => True) (fun k => False) rfl rfl ?bO ?bR ?bK (fun k hk => hk.elim) (fun _ _ => trivial) ?bB ?bS (by omega) ?_; (case bO => (refine Kd.R_lower (base := wc.drew.heap.size) ?_ HB1.out.size; repeat' (first | with_reducible exact HR124.out | with_reducible refine Kd.R_below ?_ (zac (Below.refl _ _) _)))); (case bR => ((with_reducible refine zcB (t := 41) (cs := [.slice none 0 0]) ([] : Rows) ?_ ?_); rotate_left; exact szRows.symm; repeat' (first | with_reducible exact Go.Deep.blk_alloc_new _ _ | with_reducible exact new2 _ _ _ _ | with_reducible exact newd _ _ _ | with_reducible exact zhw _ _ _ _ | with_reducible exact zhJ _ _ _ _ | with_reducible refine zaB ?_ HB124.out | with_reducible refine HT122.out _ _ ?_ | with_reducible refine zaB ?_ HB34.out | with_reducible refine zai ?_ _))); (case bK => (intro p c hpc; obtain ⟨e1, e2⟩ := hpc; rw [e1, e2]; exact Kd.M_row (Kd.R_nil _ _ _ _ _))); (case bB => (refine HB1.out.trans (Below.mono (B := wc.drew.heap.size) ?_ HB1.out.size); repeat' (first | with_reducible exact Below.refl _ _ | with_reducible exact HBC124.out | with_reducible exact HBC122.out | with_reducible exact HBC34.out | with_reducible refine zac ?_ _ | with_reducible refine dal ?_))); (case bS => (refine Nat.le_trans HB1.out.size (Below.size (B := wc.drew.heap.size) ?_); repeat' (first | with_reducible exact Below.refl _ _ | with_reducible exact HBC124.out | with_reducible exact HBC122.out | with_reducible exact HBC34.out | with_reducible refine zac ?_ _ | with_reducible refine dal ?_))); intro v126 w126 hv126 hb126 hg126 _; have HF1 := Aside0.mk (zko (v := .slice Az (s ++ [(⟨nm, cols, KF.1, RF.1, []⟩ : S49)]).length cz) (u := .slice Ay d.length cy) (base := w.heap.size) (bs := wc.drew.heap.size) (xs := s ++ [(⟨nm, cols, KF.1, RF.1, []⟩ : S49)]) (d := d) hg126 (by repeat' (first | with_reducible exact HR122.out | with_reducible refine Kd.R_below ?_ HB124.out | with_reducible refine Kd.R_below ?_ (zac (Below.refl _ _) _))) (by repeat' (first | with_reducible exact HR124.out | with_reducible refine Kd.R_below ?_ (zac (Below.refl _ _) _)))); have HF2 := Aside0.mk hv126; have HF3 := Aside0.mk hb126; have HBC124 := Aside0.mk (Below.grown (B := wc.drew.heap.size) (a := wc.drew) (by repeat' (first | with_reducible exact Below.refl _ _ | with_reducible exact HBC124.out | with_reducible exact HBC122.out | with_reducible exact HBC34.out | with_reducible refine zac ?_ _ | with_reducible refine dal ?_)) hg126 (Below.size (B := wc.drew.heap.size) (w := wc.drew) (by repeat' (first | with_reducible exact Below.refl _ _ | with_reducible exact HBC124.out | with_reducible exact HBC122.out | with_reducible exact HBC34.out | with_reducible refine zac ?_ _ | with_reducible refine dal ?_))) (fun k hk => Kd.R_base HR124.out k hk)); clear hv126 hb126 hg126))
        all_goals
          go_wp2
          go_ret3
          have e9 := HPF.out
          rw [e9]
          have hf := HF1.out
          rw [show (s ++ [(⟨nm, cols, KF.1, RF.1, []⟩ : S49)]).length = s.length + 1 by simp] at hf
          exact ⟨_, _, rfl, hf, HF2.out, HF3.out⟩
set_option maxHeartbeats 4000000 in
set_option maxRecDepth 100000 in
theorem zfm (A0 : Option Addr) (c0 : Nat) (A1 : Option Addr) (c1 : Nat) (l : List S64) (w : World) (hA : Kd.C k64 w A0 l.length l) (hc0 : l.length ≤ c0) (hB : Kd.C k64 w A1 l.length l) (hc1 : l.length ≤ c1) :
  Calls Tryz.prog 74 #[.slice A0 l.length c0, .slice A1 l.length c1] w fun e w' => e = .returned (.bool true) ∧ Below w.heap.size w w' := by
 have HA := Aside0.mk hA
 have HB := Aside0.mk hB
 have hlen := hA.2.1
 have HSM : Aside0 (∀ (x : S64) (W : World), Calls Tryz.prog 126 #[.agg #[.int .u8 x.f0, .int .i64 x.f1, .string x.f2], .agg #[.int .u8 x.f0, .int .i64 x.f1, .string x.f2]] W fun e w' => e = .returned (.bool true) ∧ Below W.heap.size W w') := ⟨fun x W => jointerref01_Same.calls _ _ _ _ _ _ _ W ((zie x x).trans (by rw [decide_eq_true rfl]))⟩
 have e1 : ((l.length : Int) == (l.length : Int)) = true := beq_iff_eq.mpr rfl
 have e2 : ((l.length : Int) != (l.length : Int)) = false := by rw [bne, e1]; rfl
 clear hA hB
 go_enter Tryz.func74, Tryz.ntmps74
 go_wp2
 go_loopg [5] l.length (fun gk v5 wx => ∃ (i : Nat), i + gk = l.length ∧ v5 = .int .i64 i ∧ Aside0 (Below w.heap.size w wx))
 case atStart => exact ⟨0, by omega, rfl, ⟨Below.refl _ _⟩⟩
 case round =>
  clear e1 e2
  obtain ⟨i, hi, rfl, HW⟩ := hrel
  cases gk with
  | zero =>
   have hii : ¬ (i : Int) < (l.length : Int) := by omega
   go_wp2
   go_ret
   exact ⟨rfl, HW.out⟩
  | succ gi =>
   have hii : (i : Int) < (l.length : Int) := by omega
   have hi0 : (0 : Int) ≤ (i : Int) := by omega
   obtain ⟨aa, haa, u0, u1, u2⟩ := zcG HA.out (i : Int) hi0 hii
   cases haa
   obtain ⟨ab, hab, v0, v1, v2⟩ := zcG HB.out (i : Int) hi0 hii
   cases hab
   rw [Int.toNat_natCast] at u0 u1 u2 v0 v1 v2
   generalize rd_T64 l (i : Int) = x at *
   have KS : ∀ W, Below w.heap.size w W → W.cell? (aa.add (i * 3)) = some (.int .u8 x.f0) ∧ W.cell? ⟨(aa.add (i * 3)).block, (aa.add (i * 3)).off + 1, none⟩ = some (.int .i64 x.f1) ∧ W.cell? ⟨(aa.add (i * 3)).block, (aa.add (i * 3)).off + 2, none⟩ = some (.string x.f2) ∧ W.cell? (ab.add (i * 3)) = some (.int .u8 x.f0) ∧ W.cell? ⟨(ab.add (i * 3)).block, (ab.add (i * 3)).off + 1, none⟩ = some (.int .i64 x.f1) ∧ W.cell? ⟨(ab.add (i * 3)).block, (ab.add (i * 3)).off + 2, none⟩ = some (.string x.f2) := fun W hW =>
    ⟨(hW.cell (World.block_lt_of_cell? w _ u0)).trans u0, (hW.cell (World.block_lt_of_cell? w _ u1)).trans u1, (hW.cell (World.block_lt_of_cell? w _ u2)).trans u2, (hW.cell (World.block_lt_of_cell? w _ v0)).trans v0, (hW.cell (World.block_lt_of_cell? w _ v1)).trans v1, (hW.cell (World.block_lt_of_cell? w _ v2)).trans v2⟩
   have HN : Aside0 (∀ W, Calls Tryz.prog 126 #[.agg #[.int .u8 x.f0, .int .i64 x.f1, .string x.f2], .agg #[.int .u8 x.f0, .int .i64 x.f1, .string x.f2]] W fun e w' => e = .returned (.bool true) ∧ Below W.heap.size W w') := ⟨fun W => HSM.out x W⟩
   clear u0 u1 u2 v0 v1 v2
   go_wp2
   go_region_held3 (fun W => W.cell? (aa.add (i * 3)) = some (.int .u8 x.f0) ∧ W.cell? ⟨(aa.add (i * 3)).block, (aa.add (i * 3)).off + 1, none⟩ = some (.int .i64 x.f1) ∧ W.cell? ⟨(aa.add (i * 3)).block, (aa.add (i * 3)).off + 2, none⟩ = some (.string x.f2) ∧ W.cell? (ab.add (i * 3)) = some (.int .u8 x.f0) ∧ W.cell? ⟨(ab.add (i * 3)).block, (ab.add (i * 3)).off + 1, none⟩ = some (.int .i64 x.f1) ∧ W.cell? ⟨(ab.add (i * 3)).block, (ab.add (i * 3)).off + 2, none⟩ = some (.string x.f2)) (first | exact KS _ (zab HW.out) | exact KS _ (below_step (zab HW.out) hb1)) ((go_at_call 126; refine (HN.out _).mono ?_; rintro e w1 ⟨rfl, hb1⟩))
   have HW2 := Aside0.mk (below_step (zab HW.out) hb1)
   clear hb1 KS
   go_wp2
   go_roundg gi
   case measure => omega
   case rel => exact ⟨i + 1, by omega, za3 (by omega), HW2⟩
set_option maxHeartbeats 4000000 in
set_option maxRecDepth 100000 in
theorem zeo (A0 : Option Addr) (c0 : Nat) (A1 : Option Addr) (c1 : Nat) (l : List (List S64)) (w : World) (hA : Kd.C (Kd.slice 87 k64) w A0 l.length l) (hc0 : l.length ≤ c0) (hB : Kd.C (Kd.slice 87 k64) w A1 l.length l) (hc1 : l.length ≤ c1) :
  Calls Tryz.prog 26 #[.slice A0 l.length c0, .slice A1 l.length c1] w fun e w' => e = .returned (.bool true) ∧ Below w.heap.size w w' := by
 have HA := Aside0.mk hA
 have HB := Aside0.mk hB
 have hlen := hA.2.1
 have e1 : ((l.length : Int) == (l.length : Int)) = true := beq_iff_eq.mpr rfl
 have e2 : ((l.length : Int) != (l.length : Int)) = false := by rw [bne, e1]; rfl
 clear hA hB
 go_enter Tryz.func26, Tryz.ntmps26
 go_wp2
 go_loopg [5] l.length (fun gk v5 wx => ∃ (i : Nat), i + gk = l.length ∧ v5 = .int .i64 i ∧ Aside0 (Below w.heap.size w wx))
 case atStart => exact ⟨0, by omega, rfl, ⟨Below.refl _ _⟩⟩
 case round =>
  clear e1 e2
  obtain ⟨i, hi, rfl, HW⟩ := hrel
  cases gk with
  | zero =>
   have hii : ¬ (i : Int) < (l.length : Int) := by omega
   go_wp2
   go_ret
   exact ⟨rfl, HW.out⟩
  | succ gi =>
   have hii : (i : Int) < (l.length : Int) := by omega
   have hi0 : (0 : Int) ≤ (i : Int) := by omega
   obtain ⟨aa, Aa, ca, haa, u0, hca, hCa⟩ := zbu HA.out (i : Int) hi0 hii
   cases haa
   obtain ⟨ab, Ab, cb, hab, v0, hcb, hCb⟩ := zbu HB.out (i : Int) hi0 hii
   cases hab
   rw [Int.toNat_natCast] at u0 v0
   generalize rd_L12 l (i : Int) = x at *
   have KS : ∀ W, Below w.heap.size w W → W.cell? (aa.add i) = some (.slice Aa x.length ca) ∧ W.cell? (ab.add i) = some (.slice Ab x.length cb) := fun W hW =>
    ⟨(hW.cell (World.block_lt_of_cell? w _ u0)).trans u0, (hW.cell (World.block_lt_of_cell? w _ v0)).trans v0⟩
   have HN : Aside0 (∀ W, Below w.heap.size w W → Calls Tryz.prog 74 #[.slice Aa x.length ca, .slice Ab x.length cb] W fun e w' => e = .returned (.bool true) ∧ Below W.heap.size W w') := ⟨fun W hW => zfm Aa ca Ab cb x W (Kd.C_below hCa hW) hca (Kd.C_below hCb hW) hcb⟩
   clear u0 v0 hCa hCb
   go_wp2
   go_region_held3 (fun W => W.cell? (aa.add i) = some (.slice Aa x.length ca) ∧ W.cell? (ab.add i) = some (.slice Ab x.length cb)) (first | exact KS _ (zab HW.out) | exact KS _ (below_step (zab HW.out) hb1)) ((go_at_call 74; refine (HN.out _ (zab HW.out)).mono ?_; rintro e w1 ⟨rfl, hb1⟩))
   have HW2 := Aside0.mk (below_step (zab HW.out) hb1)
   clear hb1 KS
   go_wp2
   go_roundg gi
   case measure => omega
   case rel => exact ⟨i + 1, by omega, za3 (by omega), HW2⟩
set_option maxHeartbeats 4000000 in
set_option maxRecDepth 100000 in
theorem zfj (A0 : Option Addr) (c0 : Nat) (A1 : Option Addr) (c1 : Nat) (l : List (List (List S64))) (w : World) (hA : Kd.C (Kd.slice 89 (Kd.slice 87 k64)) w A0 l.length l) (hc0 : l.length ≤ c0) (hB : Kd.C (Kd.slice 89 (Kd.slice 87 k64)) w A1 l.length l) (hc1 : l.length ≤ c1) :
  Calls Tryz.prog 11 #[.slice A0 l.length c0, .slice A1 l.length c1] w fun e w' => e = .returned (.bool true) ∧ Below w.heap.size w w' := by
 have HA := Aside0.mk hA
 have HB := Aside0.mk hB
 have hlen := hA.2.1
 have e1 : ((l.length : Int) == (l.length : Int)) = true := beq_iff_eq.mpr rfl
 have e2 : ((l.length : Int) != (l.length : Int)) = false := by rw [bne, e1]; rfl
 clear hA hB
 go_enter Tryz.func11, Tryz.ntmps11
 go_wp2
 go_loopg [5] l.length (fun gk v5 wx => ∃ (i : Nat), i + gk = l.length ∧ v5 = .int .i64 i ∧ Aside0 (Below w.heap.size w wx))
 case atStart => exact ⟨0, by omega, rfl, ⟨Below.refl _ _⟩⟩
 case round =>
  clear e1 e2
  obtain ⟨i, hi, rfl, HW⟩ := hrel
  cases gk with
  | zero =>
   have hii : ¬ (i : Int) < (l.length : Int) := by omega
   go_wp2
   go_ret
   exact ⟨rfl, HW.out⟩
  | succ gi =>
   have hii : (i : Int) < (l.length : Int) := by omega
   have hi0 : (0 : Int) ≤ (i : Int) := by omega
   obtain ⟨aa, Aa, ca, haa, u0, hca, hCa⟩ := zbg HA.out (i : Int) hi0 hii
   cases haa
   obtain ⟨ab, Ab, cb, hab, v0, hcb, hCb⟩ := zbg HB.out (i : Int) hi0 hii
   cases hab
   rw [Int.toNat_natCast] at u0 v0
   generalize rd_L13 l (i : Int) = x at *
   have KS : ∀ W, Below w.heap.size w W → W.cell? (aa.add i) = some (.slice Aa x.length ca) ∧ W.cell? (ab.add i) = some (.slice Ab x.length cb) := fun W hW =>
    ⟨(hW.cell (World.block_lt_of_cell? w _ u0)).trans u0, (hW.cell (World.block_lt_of_cell? w _ v0)).trans v0⟩
   have HN : Aside0 (∀ W, Below w.heap.size w W → Calls Tryz.prog 26 #[.slice Aa x.length ca, .slice Ab x.length cb] W fun e w' => e = .returned (.bool true) ∧ Below W.heap.size W w') := ⟨fun W hW => zeo Aa ca Ab cb x W (Kd.C_below hCa hW) hca (Kd.C_below hCb hW) hcb⟩
   clear u0 v0 hCa hCb
   go_wp2
   go_region_held3 (fun W => W.cell? (aa.add i) = some (.slice Aa x.length ca) ∧ W.cell? (ab.add i) = some (.slice Ab x.length cb)) (first | exact KS _ (zab HW.out) | exact KS _ (below_step (zab HW.out) hb1)) ((go_at_call 26; refine (HN.out _ (zab HW.out)).mono ?_; rintro e w1 ⟨rfl, hb1⟩))
   have HW2 := Aside0.mk (below_step (zab HW.out) hb1)
   clear hb1 KS
   go_wp2
   go_roundg gi
   case measure => omega
   case rel => exact ⟨i + 1, by omega, za3 (by omega), HW2⟩
def smallS : List S49 := [⟨⟨#[116]⟩, [⟨⟨#[97]⟩, 1, false, 0, 9⟩, ⟨⟨#[98]⟩, 2, false, 0, 3⟩], [[0]], [], []⟩, ⟨⟨#[117]⟩, [⟨⟨#[97]⟩, 1, true, 0, 9⟩], [], [⟨[0], 0, 0⟩], []⟩]
def smallD : Data := [[[⟨1, 1, ⟨#[]⟩⟩, ⟨0, 0, ⟨#[]⟩⟩]], [[⟨1, 1, ⟨#[]⟩⟩]]]
def smallR : Rows := [[⟨1, 2, ⟨#[]⟩⟩, ⟨2, 0, ⟨#[120]⟩⟩]]
def smallF : Data := [[[⟨1, 1, ⟨#[]⟩⟩, ⟨0, 0, ⟨#[]⟩⟩], [⟨1, 2, ⟨#[]⟩⟩, ⟨2, 0, ⟨#[120]⟩⟩]], [[⟨1, 1, ⟨#[]⟩⟩]]]
theorem zfr {α : Type} (d : Kd α) {W : World} {g t : Nat} {c : List Value} {x : α} (h : W.heap[g]? = some (.cells c.toArray t (0, 0))) (hK : d.K W x c) : Kd.C d W (some ⟨g, 0, none⟩) 1 [x] :=
 ⟨rfl, by omega, fun _ => ⟨_, rfl, fun j p hj => by
  cases j with
  | succ j => simp at hj
  | zero =>
   cases (Option.some.inj hj)
   refine ⟨c, d.K_len hK, hK, fun i u hu => ?_⟩
   rw [Nat.zero_mul, Nat.zero_add, zaI]
   exact (zad h i).trans (by simpa using hu)⟩⟩
theorem zj5 {α : Type} (d : Kd α) {W : World} {g t : Nat} {c c2 : List Value} {x y : α} (h : W.heap[g]? = some (.cells (c ++ c2).toArray t (0, 0))) (hK : d.K W x c) (hK2 : d.K W y c2) : Kd.C d W (some ⟨g, 0, none⟩) 2 [x, y] :=
 ⟨rfl, by omega, fun _ => ⟨_, rfl, fun j p hj => by
  have hl := d.K_len hK
  cases j with
  | zero =>
   cases (Option.some.inj hj)
   refine ⟨c, hl, hK, fun i u hu => ?_⟩
   rw [Nat.zero_mul, Nat.zero_add, zaI]
   have hi := (List.getElem?_eq_some_iff.1 hu).1
   refine (zad h i).trans ?_
   rw [List.getElem?_toArray, List.getElem?_append_left hi, hu]
  | succ j =>
   cases j with
   | succ j => simp at hj
   | zero =>
    cases (Option.some.inj hj)
    refine ⟨c2, d.K_len hK2, hK2, fun i u hu => ?_⟩
    rw [Nat.zero_add, Nat.one_mul, zaI]
    refine (zad h _).trans ?_
    rw [List.getElem?_toArray, List.getElem?_append_right (by omega), ← hl, Nat.add_sub_cancel_left, hu]⟩⟩
theorem zf2 : ∀ (L : List Obj) (w : World), Below w.heap.size w (L.foldl World.alloc w) ∧ ∀ i, i < L.length → (L.foldl World.alloc w).heap[w.heap.size + i]? = L[i]?
 | [], w => ⟨Below.refl _ _, fun i hi => by simp at hi⟩
 | o :: r, w => by
  obtain ⟨h1, h2⟩ := zf2 r (w.alloc o)
  have hs : (w.alloc o).heap.size = w.heap.size + 1 := Array.size_push _
  have hn : (w.alloc o).heap[w.heap.size]? = some o := Array.getElem?_push_size
  refine ⟨below_step (zac (Below.refl _ _) o) h1, fun i hi => ?_⟩
  cases i with
  | zero => exact (h1.block _ (by omega)).trans hn
  | succ i =>
   have := h2 i (by simpa using hi)
   rw [hs, Nat.add_assoc, Nat.add_comm 1 i] at this
   exact this
set_option maxHeartbeats 4000000 in
set_option maxRecDepth 100000 in
theorem zh6 (w : World) : Calls Tryz.prog 39 #[] w fun e w' => ∃ (A : Option Addr) (c : Nat) (A1 : Option Addr) (c1 : Nat), e = .returned (.tuple #[.slice A smallS.length c, .slice A1 smallD.length c1]) ∧ smallS.length ≤ c ∧ Kd.C k49 w' A smallS.length smallS ∧ smallD.length ≤ c1 ∧ Kd.C (Kd.slice 89 (Kd.slice 87 k64)) w' A1 smallD.length smallD ∧ Below w.heap.size w w' := by
 go_enter Tryz.func39, Tryz.ntmps39
 go_wp2
 go_ret2
 generalize hW : World.alloc _ _ = W
 obtain ⟨hb, hh⟩ := zf2 [_, _, _, _, _, _, _, _, _, _, _, _] w
 replace hh := fun (i : Nat) (hi : i < 12) => (congrArg (fun V : World => V.heap[w.heap.size + i]?) hW).symm.trans (hh i hi)
 have hb : Below w.heap.size w W := by rw [← hW]; exact hb
 clear hW
 generalize w.heap.size = B at *
 have h0 := hh 0 (by decide)
 have h1 := hh 1 (by decide)
 have h2 := hh 2 (by decide)
 have h3 := hh 3 (by decide)
 have h4 := hh 4 (by decide)
 have h5 := hh 5 (by decide)
 have h6 := hh 6 (by decide)
 have h7 := hh 7 (by decide)
 have h8 := hh 8 (by decide)
 have h9 := hh 9 (by decide)
 have h10 := hh 10 (by decide)
 have h11 := hh 11 (by decide)
 clear hh
 have g0 := zj5 k78 (c := [.string ⟨#[97]⟩, .int .u8 1, .bool false, .int .i64 0, .int .i64 9]) (c2 := [.string ⟨#[98]⟩, .int .u8 2, .bool false, .int .i64 0, .int .i64 3]) h0 (zhd W ⟨⟨#[97]⟩, 1, false, 0, 9⟩) (zhd W ⟨⟨#[98]⟩, 2, false, 0, 3⟩)
 have g1 := zfr k78 h1 (zhd W ⟨⟨#[97]⟩, 1, true, 0, 9⟩)
 have g2 := zfr (Kd.int .i64) (c := [.int .i64 0]) (x := 0) h2 rfl
 have g3 := zfr (Kd.slice 3 (Kd.int .i64)) (c := [.slice (some ⟨B + 2, 0, none⟩) 1 1]) (x := [0]) h3 ⟨_, 1, rfl, Nat.le_refl _, g2⟩
 have g4 := zfr (Kd.int .i64) (c := [.int .i64 0]) (x := 0) h4 rfl
 have g5 := zfr k75 h5 (zkr W ⟨[0], 0, 0⟩ (Nat.le_refl _) g4)
 have n0 : ∀ {α : Type} (d : Kd α), Kd.C d W none 0 [] := fun d => zih d W
 have g6 := zj5 k49 (c := [.string ⟨#[116]⟩, .slice (some ⟨B, 0, none⟩) 2 2, .slice (some ⟨B + 3, 0, none⟩) 1 1, .slice none 0 0, .slice none 0 0]) (c2 := [.string ⟨#[117]⟩, .slice (some ⟨B + 1, 0, none⟩) 1 1, .slice none 0 0, .slice (some ⟨B + 5, 0, none⟩) 1 1, .slice none 0 0]) h6
  (zjn W ⟨⟨#[116]⟩, [⟨⟨#[97]⟩, 1, false, 0, 9⟩, ⟨⟨#[98]⟩, 2, false, 0, 3⟩], [[0]], [], []⟩ (Nat.le_refl _) g0 (Nat.le_refl _) g3 (Nat.le_refl _) (n0 _) (Nat.le_refl _) (n0 _))
  (zjn W ⟨⟨#[117]⟩, [⟨⟨#[97]⟩, 1, true, 0, 9⟩], [], [⟨[0], 0, 0⟩], []⟩ (Nat.le_refl _) g1 (Nat.le_refl _) (n0 _) (Nat.le_refl _) g5 (Nat.le_refl _) (n0 _))
 have g7 := zj5 k64 (c := [.int .u8 1, .int .i64 1, .string ⟨#[]⟩]) (c2 := [.int .u8 0, .int .i64 0, .string ⟨#[]⟩]) h7 (zhc W ⟨1, 1, ⟨#[]⟩⟩) (zhc W ⟨0, 0, ⟨#[]⟩⟩)
 have g8 := zfr k64 h8 (zhc W ⟨1, 1, ⟨#[]⟩⟩)
 have g9 := zfr (Kd.slice 87 k64) (c := [.slice (some ⟨B + 7, 0, none⟩) 2 2]) (x := [⟨1, 1, ⟨#[]⟩⟩, ⟨0, 0, ⟨#[]⟩⟩]) h9 ⟨_, 2, rfl, Nat.le_refl _, g7⟩
 have g10 := zfr (Kd.slice 87 k64) (c := [.slice (some ⟨B + 8, 0, none⟩) 1 1]) (x := [⟨1, 1, ⟨#[]⟩⟩]) h10 ⟨_, 1, rfl, Nat.le_refl _, g8⟩
 have g11 := zj5 (Kd.slice 89 (Kd.slice 87 k64)) (c := [.slice (some ⟨B + 9, 0, none⟩) 1 1]) (c2 := [.slice (some ⟨B + 10, 0, none⟩) 1 1]) (x := [[⟨1, 1, ⟨#[]⟩⟩, ⟨0, 0, ⟨#[]⟩⟩]]) (y := [[⟨1, 1, ⟨#[]⟩⟩]]) h11 ⟨_, 1, rfl, Nat.le_refl _, g9⟩ ⟨_, 1, rfl, Nat.le_refl _, g10⟩
 exact ⟨_, 2, _, 2, rfl, Nat.le_refl _, g6, Nat.le_refl _, g11, hb⟩
theorem aw1 : scheme_Valid.f 60 smallS = some true := by decide +kernel
theorem aw2 : zb6 60 smallS smallD = some true := by decide +kernel
theorem aw3 : scheme_Find.f 60 smallS ⟨#[117]⟩ = some (1, true) := by decide +kernel
theorem aw4 : zfk 60 smallS smallD ⟨#[116]⟩ [true] = some ([], 77) := by decide +kernel
theorem aw5 : zeV 60 smallS smallD ⟨#[116]⟩ smallR = some (smallF, 0) := by decide +kernel
theorem aw6 : zaJ smallD := by unfold zaJ za1; decide +kernel
theorem aw7 : za1 smallR := by unfold za1; decide +kernel
theorem aw8 : zcr smallD := by unfold zcr zeA wfV; decide +kernel
theorem aw9 : zeA smallR := by unfold zeA wfV; decide +kernel
theorem zg0 {α : Type} (d : Kd α) (e : Nat) (W : World) (base : Nat) {xs : List α} {inner : List Value} (hrep : Reps (d.M W base (fun _ => True)) d.sz xs inner) (hb : base ≤ W.heap.size) (hm : xs.length ≤ 9223372036854775807) :
  d.R e (W.alloc (.cells inner.toArray e)) base (fun _ => True) (.slice (some ⟨W.heap.size, 0, none⟩) xs.length xs.length) xs := by
 refine ⟨fun k hk => trivial, inner, ?_, ?_⟩
 ·have h2 := World.ownsRow_lit (base := base) (e := e) (size := d.sz) W inner.toArray xs.length hb (by simpa [maxLen] using hm) (by simpa using hrep.1)
  simpa using h2
 ·refine hrep.imp_ (fun p c hp => d.M_mono (fun k hk => ⟨trivial, fun he => ?_⟩) (Kd.M_below (d.M_bound hp) (zac (Below.refl _ _) _)))
  have h3 : k = W.heap.size := by simpa [Value.ownBlock] using he
  have := hk.2.2.1
  omega
theorem zjQ (W : World) : Kd.C Kd.bool (W.alloc (.cells #[.bool true] 4)) (some ⟨W.heap.size, 0, none⟩) 1 [true] :=
 (Kd.R_reads' (zg0 Kd.bool 4 W W.heap.size (xs := [true]) (inner := [.bool true]) (Reps.one (show Kd.M Kd.bool _ _ _ true [.bool true] from rfl) (Reps.none _ _)) (Nat.le_refl _) (by simp))).2.2
def rowCells : Array Value := #[.int .u8 1, .int .i64 2, .string ⟨#[]⟩, .int .u8 2, .int .i64 0, .string ⟨#[120]⟩]
theorem zj2 (W : World) : Kd.C (Kd.slice 87 k64) ((W.alloc (.cells rowCells 87)).alloc (.cells #[.slice (some ⟨W.heap.size, 0, none⟩) 2 2] 89)) (some ⟨W.heap.size + 1, 0, none⟩) 1 smallR := by
 have h1 := zg0 k64 87 W W.heap.size (xs := [(⟨1, 2, ⟨#[]⟩⟩ : S64), ⟨2, 0, ⟨#[120]⟩⟩]) (inner := rowCells.toList) (Reps.c3 (show Kd.M k64 _ _ _ (⟨1, 2, (⟨#[]⟩ : ByteArray)⟩ : S64) [.int .u8 1, .int .i64 2, .string (⟨#[]⟩ : ByteArray)] from (zjb _ _ _ (⟨1, 2, (⟨#[]⟩ : ByteArray)⟩ : S64) )) (Reps.c3 (show Kd.M k64 _ _ _ (⟨2, 0, (⟨#[120]⟩ : ByteArray)⟩ : S64) [.int .u8 2, .int .i64 0, .string (⟨#[120]⟩ : ByteArray)] from (zjb _ _ _ (⟨2, 0, (⟨#[120]⟩ : ByteArray)⟩ : S64) )) (Reps.none _ _))) (Nat.le_refl _) (by simp)
 have h2 := zg0 (Kd.slice 87 k64) 89 (W.alloc (.cells rowCells 87)) W.heap.size (xs := smallR) (inner := [.slice (some ⟨W.heap.size, 0, none⟩) 2 2]) (Reps.one (Kd.M_row h1) (Reps.none _ _)) (by simp) (by simp [smallR])
 have h3 := (Kd.R_reads' h2).2.2
 show Kd.C _ _ _ smallR.length smallR
 simpa using h3
set_option maxHeartbeats 4000000 in
set_option maxRecDepth 100000 in
theorem zhV (w : World) (hL : LaidL w) : Calls Tryz.prog 12 #[] w fun e w' => e = .returned (.bool true) ∧ Below w.heap.size w w' := by
 have HSM := Aside0.mk (zh6 w)
 have hls : smallS.length = 2 := rfl
 have hld : smallD.length = 2 := rfl
 have hlr : smallR.length = 1 := rfl
 have hlf : smallF.length = 2 := rfl
 have HFV : Aside0 (∀ (A : Option Addr) (c : Nat) (W : World), Below w.heap.size w W → 2 ≤ c → Kd.C k49 W A 2 smallS → Calls Tryz.prog 40 #[.slice A 2 c, .string ⟨#[117]⟩] W fun e w' => e = .returned (.tuple #[.int .i64 1, .bool true]) ∧ Below W.heap.size W w') := ⟨fun A c W hW hc hC => scheme_Find.calls 60 A c smallS ⟨#[117]⟩ 1 true W hC hc aw3 (LaidL.below ⟨hL⟩ hW)⟩
 have HVV : Aside0 (∀ (A : Option Addr) (c : Nat) (W : World), Below w.heap.size w W → 2 ≤ c → Kd.C k49 W A 2 smallS → Calls Tryz.prog 28 #[.slice A 2 c] W fun e w' => e = .returned (.bool true) ∧ Below W.heap.size W w') := ⟨fun A c W hW hc hC => scheme_Valid.calls 60 A c smallS true W hC hc aw1 (LaidL.below ⟨hL⟩ hW)⟩
 have HVD : Aside0 (∀ (A : Option Addr) (c : Nat) (A1 : Option Addr) (c1 : Nat) (W : World), Below w.heap.size w W → 2 ≤ c → Kd.C k49 W A 2 smallS → 2 ≤ c1 → Kd.C (Kd.slice 89 (Kd.slice 87 k64)) W A1 2 smallD → Calls Tryz.prog 29 #[.slice A 2 c, .slice A1 2 c1] W fun e w' => e = .returned (.bool true) ∧ Below W.heap.size W w') := ⟨fun A c A1 c1 W hW hc hC hc1 hC1 => zbb 60 A c smallS A1 c1 smallD true W hC hc hC1 hc1 aw8 (LaidL.below ⟨hL⟩ hW) aw2⟩
 have HDL : Aside0 (∀ (A : Option Addr) (c : Nat) (A1 : Option Addr) (c1 : Nat) (A3 : Option Addr) (c3 : Nat) (W : World), Below w.heap.size w W → 2 ≤ c → Kd.C k49 W A 2 smallS → 2 ≤ c1 → Kd.C (Kd.slice 89 (Kd.slice 87 k64)) W A1 2 smallD → 1 ≤ c3 → Kd.C Kd.bool W A3 1 [true] → Calls Tryz.prog 24 #[.slice A 2 c, .slice A1 2 c1, .string ⟨#[116]⟩, .slice A3 1 c3] W fun e w' => ∃ (A : Option Addr) (c : Nat), e = .returned (.tuple #[.slice A 0 c, .int .i64 77]) ∧ Below W.heap.size W w') := ⟨fun A c A1 c1 A3 c3 W hW hc hC hc1 hC1 hc3 hC3 => (zgA 60 A c smallS A1 c1 smallD ⟨#[116]⟩ A3 c3 [true] [] 77 W hC hc hC1 hc1 hC3 hc3 aw8 (fun _ => aw6) (LaidL.below ⟨hL⟩ hW) aw4).mono fun e w' ⟨A, c, he, _, _, hb⟩ => ⟨A, c, he, hb⟩⟩
 have HIN : Aside0 (∀ (A : Option Addr) (c : Nat) (A1 : Option Addr) (c1 : Nat) (A3 : Option Addr) (c3 : Nat) (W : World), Below w.heap.size w W → 2 ≤ c → Kd.C k49 W A 2 smallS → 2 ≤ c1 → Kd.C (Kd.slice 89 (Kd.slice 87 k64)) W A1 2 smallD → 1 ≤ c3 → Kd.C (Kd.slice 87 k64) W A3 1 smallR → Calls Tryz.prog 22 #[.slice A 2 c, .slice A1 2 c1, .string ⟨#[116]⟩, .slice A3 1 c3] W fun e w' => ∃ (ad : Addr) (c : Nat) (A0 : Option Addr) (c0 : Nat), e = .returned (.tuple #[.slice (some ad) 2 c, .int .i64 0]) ∧ (∀ W2, Below w'.heap.size w' W2 → W2.cell? ad = some (.slice A0 2 c0)) ∧ Below W.heap.size W w') := ⟨fun A c A1 c1 A3 c3 W hW hc hC hc1 hC1 hc3 hC3 => (zgG 60 A c smallS A1 c1 smallD ⟨#[116]⟩ A3 c3 smallR smallF 0 W hC hc hC1 hc1 hC3 hc3 aw8 aw9 (fun _ => aw6) (by decide) (fun _ _ _ _ => aw7) (LaidL.below ⟨hL⟩ hW) aw5).mono fun e w' ⟨A, c, he, hl, hC, hb⟩ => by
  obtain ⟨ad, A0, c0, hA, hx, _⟩ := zbg hC 0 (by decide) (by decide)
  subst hA
  have hx2 : w'.cell? ad = some (.slice A0 2 c0) := by rw [show (rd_L13 smallF 0).length = 2 from rfl] at hx; simpa [Addr.add] using hx
  exact ⟨ad, c, A0, c0, he, fun W2 h2 => (h2.cell (World.block_lt_of_cell? w' _ hx2)).trans hx2, hb⟩⟩
 clear hL
 go_enter Tryz.func12, Tryz.ntmps12
 go_wp2_with (first
  | (go_at_call 39; refine HSM.out.mono ?_; rintro e w1 ⟨A, c, A1, c1, rfl, hl, hC, hl1, hC1, hb1⟩; rw [hls] at hl hC ⊢; rw [hld] at hl1 hC1 ⊢; have HC := Aside0.mk hC; have HC1 := Aside0.mk hC1; have HB1 := Aside0.mk hb1; clear hC hC1 hb1)
  | (go_at_call 40; refine (HFV.out A c w1 HB1.out hl HC.out).mono ?_; rintro e w2 ⟨rfl, hb2⟩; have HB2 := Aside0.mk (below_step HB1.out hb2); have HC2 := Aside0.mk (Kd.C_below HC.out hb2); have HC12 := Aside0.mk (Kd.C_below HC1.out hb2); clear hb2)
  | (go_at_call 24; refine (HDL.out A c A1 c1 _ _ (w2.alloc _) (HB2.out.alloc HB2.out.size _) hl (Kd.C_alloc HC2.out _) hl1 (Kd.C_alloc HC12.out _) (Nat.le_refl _) (zjQ w2)).mono ?_; rintro e w3 ⟨A5, c5, rfl, hb3⟩; have HB3 := Aside0.mk (below_step (HB2.out.alloc HB2.out.size _) hb3); have HC3 := Aside0.mk (Kd.C_below (Kd.C_alloc HC2.out _) hb3); have HC13 := Aside0.mk (Kd.C_below (Kd.C_alloc HC12.out _) hb3); clear hb3)
  | (go_at_call 22; refine (HIN.out A c A1 c1 _ _ _ ((HB3.out.alloc HB3.out.size _).alloc (Nat.le_trans HB3.out.size (by simp)) _) hl (Kd.C_alloc (Kd.C_alloc HC3.out _) _) hl1 (Kd.C_alloc (Kd.C_alloc HC13.out _) _) (Nat.le_refl _) (zj2 w3)).mono ?_; rintro e w4 ⟨ad, c6, A7, c7, rfl, hx4, hb4⟩; have HB4 := Aside0.mk (below_step ((HB3.out.alloc HB3.out.size _).alloc (Nat.le_trans HB3.out.size (by simp)) _) hb4); have HC4 := Aside0.mk (Kd.C_below (Kd.C_alloc (Kd.C_alloc HC3.out _) _) hb4); have HC14 := Aside0.mk (Kd.C_below (Kd.C_alloc (Kd.C_alloc HC13.out _) _) hb4); have HX4 := Aside0.mk hx4; clear hb4 hx4)
  | (go_at_call 28; refine (HVV.out A c w4 HB4.out hl HC4.out).mono ?_; rintro e w5 ⟨rfl, hb5⟩)
  | (go_at_call 29; refine (HVD.out A c A1 c1 w5 (below_step HB4.out hb5) hl (Kd.C_below HC4.out hb5) hl1 (Kd.C_below HC14.out hb5)).mono ?_; rintro e w6 ⟨rfl, hb6⟩; have hcx := HX4.out w6 (below_step hb5 hb6)))
 go_ret
 exact ⟨rfl, below_step (below_step HB4.out hb5) hb6⟩
theorem zky {w : World} {a b c d e f g h i : Value} {t : TypeId} {W : World} (hW : Below (w.alloc (Obj.cells #[a, b, c, d, e, f, g, h, i] t)).heap.size (w.alloc (Obj.cells #[a, b, c, d, e, f, g, h, i] t)) W) :
  W.cell? ⟨w.heap.size, 2, none⟩ = some c ∧ W.cell? ⟨w.heap.size, 4, none⟩ = some e ∧ W.cell? ⟨w.heap.size, 5, none⟩ = some f ∧ W.cell? ⟨w.heap.size, 6, none⟩ = some g := by
 have hb := Go.Deep.blk_alloc_new w (Obj.cells #[a, b, c, d, e, f, g, h, i] t)
 have hb2 := (hW.block w.heap.size (zah hb)).trans hb
 exact ⟨(zad hb2 2).trans rfl, (zad hb2 4).trans rfl, (zad hb2 5).trans rfl, (zad hb2 6).trans rfl⟩
set_option maxHeartbeats 4000000 in
set_option maxRecDepth 100000 in
theorem zgv (k : Nat) (A0 : Option Addr) (c0 : Nat) (s : List S49) (A1 : Option Addr) (c1 : Nat) (d : Data) (kd : Int) (Q : Option Addr) (qn qc : Nat) (nm cn : ByteArray) (A3 : Option Addr) (c3 : Nat) (defs : List S109) (A4 : Option Addr) (c4 : Nat) (keys : List (List ByteArray)) (A5 : Option Addr) (c5 : Nat) (refs : List S105) (R : Option Addr) (rn rc : Nat) (H : Option Addr) (hn hc : Nat) (v : Bool) (w : World)
  (hS : Kd.C k49 w A0 s.length s) (hc0 : s.length ≤ c0) (hD : Kd.C (Kd.slice 89 (Kd.slice 87 k64)) w A1 d.length d) (hc1 : d.length ≤ c1)
  (h3 : Kd.C k109 w A3 defs.length defs) (hc3 : defs.length ≤ c3) (h4 : Kd.C (Kd.slice 9 Kd.string) w A4 keys.length keys) (hc4 : keys.length ≤ c4) (h5 : Kd.C k105 w A5 refs.length refs) (hc5 : refs.length ≤ c5)
  (hwd : zcr d) (hv : zb6 k s d = some v) (hv2 : zcm s d = some v) (hrv : v = true → za5 s = some true) (hsd : v = true → zaJ d ∧ zbw s ∧ s.length ≤ 16 ∧ ∀ t ∈ s, t.f1.length ≤ 8) (hL : LaidL w)
  (hb3 : defs.length ≤ 2000000) (hz3 : ∀ x ∈ defs, x.f0.size ≤ 9223372036854775807) (hb4 : ∀ l ∈ keys, l.length ≤ 2000000)
  (hb5 : ∀ r ∈ refs, r.f0.length ≤ 2000000 ∧ r.f2.length ≤ 2000000 ∧ (∀ x ∈ r.f0, x.size ≤ 9223372036854775807) ∧ (∀ x ∈ r.f2, x.size ≤ 9223372036854775807)) :
  Calls Tryz.prog 5 #[.slice A0 s.length c0, .slice A1 d.length c1, .agg #[.int .u8 kd, .slice Q qn qc, .string nm, .string cn, .slice A3 defs.length c3, .slice A4 keys.length c4, .slice A5 refs.length c5, .slice R rn rc, .slice H hn hc]] w fun e w' => e = .returned (.bool true) ∧ Below w.heap.size w w' := by
 have H17 := Aside0.mk (fun W (hW : Below w.heap.size w W) => zen A0 c0 s A1 c1 d nm A3 c3 defs A4 c4 keys A5 c5 refs v W (Kd.C_below hS hW) hc0 (Kd.C_below hD hW) hc1 (Kd.C_below h3 hW) hc3 (Kd.C_below h4 hW) hc4 (Kd.C_below h5 hW) hc5 hwd hv2 hrv (fun h => ⟨(hsd h).1, (hsd h).2.1, (hsd h).2.2.1⟩) hb4 (fun r hr => ⟨(hb5 r hr).1, (hb5 r hr).2.1⟩))
 have H18 := Aside0.mk (fun W (hW : Below w.heap.size w W) => zgs k A0 c0 s A1 c1 d nm A3 c3 defs A4 c4 keys A5 c5 refs v W (Kd.C_below hS hW) hc0 (Kd.C_below hD hW) hc1 (Kd.C_below h3 hW) hc3 (Kd.C_below h4 hW) hc4 (Kd.C_below h5 hW) hc5 hwd hv (fun h => ⟨(hsd h).1, (hsd h).2.1, (hsd h).2.2.2⟩) (LaidL.below ⟨hL⟩ hW) hb3 hz3 hb4 hb5)
 have HAW : Aside0 (∀ W, Below w.heap.size w W → Calls Tryz.prog 12 #[] W fun e w' => e = .returned (.bool true) ∧ Below W.heap.size W w') := ⟨fun W hW => zhV W (LaidL.below ⟨hL⟩ hW)⟩
 generalize createP v s d nm defs keys refs = PR at *
 obtain ⟨r0, r1, r2⟩ := PR
 simp only at H17 H18
 have e5 : (r2 == r2) = true := beq_iff_eq.mpr rfl
 obtain ⟨W0, hW0⟩ : ∃ W, W = w.alloc (Obj.cells #[.int .u8 kd, .slice Q qn qc, .string nm, .string cn, .slice A3 defs.length c3, .slice A4 keys.length c4, .slice A5 refs.length c5, .slice R rn rc, .slice H hn hc] 44) := ⟨_, rfl⟩
 have HB0 : Aside0 (Below w.heap.size w W0) := ⟨by rw [hW0]; exact (Below.refl _ _).alloc (Nat.le_refl _) _⟩
 have HKC : Aside0 (∀ W, Below W0.heap.size W0 W → W.cell? ⟨w.heap.size, 2, none⟩ = some (.string nm) ∧ W.cell? ⟨w.heap.size, 4, none⟩ = some (.slice A3 defs.length c3) ∧ W.cell? ⟨w.heap.size, 5, none⟩ = some (.slice A4 keys.length c4) ∧ W.cell? ⟨w.heap.size, 6, none⟩ = some (.slice A5 refs.length c5)) := ⟨fun W hW => by rw [hW0] at hW; exact zky hW⟩
 have HBR := Aside0.mk (Below.refl W0.heap.size W0)
 clear hS hD h3 h4 h5 hwd hv hv2 hrv hsd hL hb3 hz3 hb4 hb5
 go_enter Tryz.func5, Tryz.ntmps5
 go_upto_region 1 with fail
 rw [← hW0]
 clear hW0
 obtain ⟨z0, z1, z2, z3⟩ := HKC.out _ HBR.out
 go_upto_region 2 with (go_at_call 17; refine (H17.out _ HB0.out).mono ?_; rintro e w1 ⟨v7, v8, rfl, hv7, hv8, hb1⟩; obtain ⟨A7, c7, e7⟩ := Kd.R_slice hv7; obtain ⟨A8, c8, e8⟩ := Kd.R_slice hv8; subst e7 e8; have HC7 := Aside0.mk (Kd.R_reads' hv7); have HC8 := Aside0.mk (Kd.R_reads' hv8); have HBW1 := Aside0.mk hb1; have HB1 := Aside0.mk (below_step HB0.out hb1); clear hv7 hv8 hb1)
 clear z0 z1 z2 z3
 obtain ⟨z0, z1, z2, z3⟩ := HKC.out _ HBW1.out
 go_wp2_with (first
  | (go_at_call 18; refine (H18.out _ HB1.out).mono ?_; rintro e w2 ⟨v9, v10, rfl, hv9, hv10, hb2⟩; obtain ⟨A9, c9, e9⟩ := Kd.R_slice hv9; obtain ⟨A10, c10, e10⟩ := Kd.R_slice hv10; subst e9 e10; have HN := Aside0.mk (zhM A9 c9 A7 c7 r0 w2 (Kd.R_reads' hv9).2.2 (Kd.R_reads' hv9).2.1 (Kd.C_below HC7.out.2.2 hb2) HC7.out.2.1); have HND := Aside0.mk (fun W (hW : Below w2.heap.size w2 W) => zfj A10 c10 A8 c8 r1 W (Kd.C_below (Kd.R_reads' hv10).2.2 hW) (Kd.R_reads' hv10).2.1 (Kd.C_below (Kd.C_below HC8.out.2.2 hb2) hW) HC8.out.2.1); have HB2 := Aside0.mk (below_step HB1.out hb2); clear hv9 hv10 hb2)
  | (go_at_call 10; refine HN.out.mono ?_; rintro e w3 ⟨rfl, hb3⟩; have HB3 := Aside0.mk (below_step HB2.out hb3); have HND3 := Aside0.mk (HND.out _ hb3); clear hb3)
  | (go_at_call 11; refine HND3.out.mono ?_; rintro e w4 ⟨rfl, hb4⟩; have HB4 := Aside0.mk (below_step HB3.out hb4); clear hb4)
  | (go_at_call 12; refine (HAW.out _ HB4.out).mono ?_; rintro e w5 ⟨rfl, hb5⟩; have HB5 := Aside0.mk (below_step HB4.out hb5); clear hb5))
 go_ret
 exact ⟨rfl, HB5.out⟩
end Go.Proofs.YthgfdnffnbclpaaGreatDoor.PAll
