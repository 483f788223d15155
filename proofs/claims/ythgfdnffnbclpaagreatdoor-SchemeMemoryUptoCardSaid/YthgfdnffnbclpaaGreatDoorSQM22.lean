import Derived.Test.YthgfdnffnbclpaaGreatDoorSQM15
import Derived.Test.YthgfdnffnbclpaaGreatDoorSQM19
import Derived.Test.YthgfdnffnbclpaaGreatDoorSQM20
import Derived.Test.YthgfdnffnbclpaaGreatDoorSQM21
import Derived.Test.YthgfdnffnbclpaaGreatDoorSQM13
import Derived.Test.YthgfdnffnbclpaaGreatDoorSQM11
import Derived.Test.YthgfdnffnbclpaaGreatDoorSQM14
set_option linter.unusedVariables false
set_option linter.unusedSimpArgs false
namespace Go.Proofs.YthgfdnffnbclpaaGreatDoor.PAll
open Go.RowKit Go.Proofs.YthgfdnffnbclpaaGreatDoorW.PrintWords Go.Proofs.YthgfdnffnbclpaaGreatDoorW.PrintLast Go.Proofs.YthgfdnffnbclpaaGreatDoorW.PrintMore

set_option maxHeartbeats 4000000 in
set_option maxRecDepth 100000 in
theorem memory_law (k : Nat) (A0 : Option Addr) (c0 : Nat) (s : List S49) (A1 : Option Addr) (c1 : Nat) (d : Data) (nm : ByteArray) (A3 : Option Addr) (c3 : Nat) (rows : Rows) (A4 : Option Addr) (c4 : Nat) (gone : List Bool)
    (i1 : Data) (ie : Int) (d1 : Data) (de : Int) (t1 : List S49) (f1 : Data) (e1 : Int) (r0 : List S49) (r1 : Data) (r2 : Int) (x0 : List S49) (xe : Int) (v vs : Bool) (w : World)
    (hS : Kd.C k49 w A0 s.length s) (hc0 : s.length ≤ c0) (hD : Kd.C (Kd.slice 89 (Kd.slice 87 k64)) w A1 d.length d) (hc1 : d.length ≤ c1)
    (hR : Kd.C (Kd.slice 87 k64) w A3 rows.length rows) (hc3 : rows.length ≤ c3) (hG : Kd.C Kd.bool w A4 gone.length gone) (hc4 : gone.length ≤ c4)
    (hss : smallSch s) (hsd : smallData d) (hsr : smallRows rows) (hwd : wfData d) (hwr : wfRows rows) (hv : dataP k s d = some v) (hvs : scheme_Valid.f k s = some vs)
    (hs8 : v = true → ∀ t ∈ s, t.f1.length ≤ 8) (hsf : v = true → ∀ t ∈ s, ∀ r ∈ t.f3, r.f1 < s.length) (hsp : vs = true → ∀ t ∈ s, t.f4.Pairwise (· < ·))
    (hi : insertP k s d nm rows = some (i1, ie)) (hd : deleteP k s d nm gone = some (d1, de)) (hcr : createP v s d ⟨#[111, 116, 104, 101, 114]⟩ [] [] [] = (t1, f1, e1)) (hdr : dropP k s d nm = some (r0, r1, r2)) (hx : addG vs s nm ⟨#[97]⟩ = (x0, xe)) (hL : LaidL w) :
    Calls Tryz.prog 6 #[.slice A0 s.length c0, .slice A1 d.length c1, .string nm, .slice A3 rows.length c3, .slice A4 gone.length c4] w fun e w' => e = .returned (.bool true) ∧ Below w.heap.size w w' := by
  have H19 := Aside0.mk (refCopy_walk A0 c0 s w hS hc0 hss)
  have H20 : Aside0 (∀ W, Below w.heap.size w W → Calls Tryz.prog 20 #[.slice A1 d.length c1] W fun e w' => ∃ v0_ : Value, e = .returned (v0_) ∧ Kd.S (Kd.slice 89 (Kd.slice 87 k64)) 41 w' W.heap.size (fun _ => True) v0_ d ∧ Below W.heap.size W w') := ⟨fun W hW => refCopyData_walk A1 c1 d W (Kd.C_below hD hW) hc1 hsd⟩
  have H21 : Aside0 (∀ W, Below w.heap.size w W → Calls Tryz.prog 21 #[.slice A3 rows.length c3] W fun e w' => ∃ v0_ : Value, e = .returned (v0_) ∧ Kd.S (Kd.slice 87 k64) 89 w' W.heap.size (fun _ => True) v0_ rows ∧ Below W.heap.size W w') := ⟨fun W hW => refCopyRows_walk A3 c3 rows W (Kd.C_below hR hW) hc3 hsr⟩
  have H22 : Aside0 (∀ W, Below w.heap.size w W → Calls Tryz.prog 22 #[.slice A0 s.length c0, .slice A1 d.length c1, .string nm, .slice A3 rows.length c3] W fun e w' => ∃ v0 : Value, e = .returned (.tuple #[v0, .int .i64 ie]) ∧ (Kd.slice 89 (Kd.slice 87 k64)).R 41 w' W.heap.size (fun _ => True) v0 i1 ∧ Below W.heap.size W w') := ⟨fun W hW => (insertS_walk k A0 c0 s A1 c1 d nm A3 c3 rows i1 ie W (Kd.C_below hS hW) hc0 (Kd.C_below hD hW) hc1 (Kd.C_below hR hW) hc3 hwd hwr (fun _ => hsd) (by have := hsr.1; omega) (fun _ _ _ _ => hsr) (LaidL.below ⟨hL⟩ hW) hi).mono fun e w' ⟨v0, he, hv, hb⟩ => ⟨v0, he, Kd.S_R hv, hb⟩⟩
  have H24 : Aside0 (∀ W, Below w.heap.size w W → Calls Tryz.prog 24 #[.slice A0 s.length c0, .slice A1 d.length c1, .string nm, .slice A4 gone.length c4] W fun e w' => ∃ v0 : Value, e = .returned (.tuple #[v0, .int .i64 de]) ∧ (Kd.slice 89 (Kd.slice 87 k64)).R 41 w' W.heap.size (fun _ => True) v0 d1 ∧ Below W.heap.size W w') := ⟨fun W hW => (deleteS_walk k A0 c0 s A1 c1 d nm A4 c4 gone d1 de W (Kd.C_below hS hW) hc0 (Kd.C_below hD hW) hc1 (Kd.C_below hG hW) hc4 hwd (fun _ => hsd) (LaidL.below ⟨hL⟩ hW) hd).mono fun e w' ⟨v0, he, hv, hb⟩ => ⟨v0, he, Kd.S_R hv, hb⟩⟩
  have H18 : Aside0 (∀ W, Below w.heap.size w W → Calls Tryz.prog 18 #[.slice A0 s.length c0, .slice A1 d.length c1, .string ⟨#[111, 116, 104, 101, 114]⟩, .slice none 0 0, .slice none 0 0, .slice none 0 0] W fun e w' => ∃ v0 v1 : Value, e = .returned (.tuple #[v0, v1, .int .i64 e1]) ∧ k49.R 72 w' W.heap.size (fun _ => True) v0 t1 ∧ (Kd.slice 89 (Kd.slice 87 k64)).R 41 w' W.heap.size (fun _ => True) v1 f1 ∧ Below W.heap.size W w') := ⟨fun W hW => by
    have h := create_walk k A0 c0 s A1 c1 d ⟨#[111, 116, 104, 101, 114]⟩ none 0 [] none 0 [] none 0 [] v W (Kd.C_below hS hW) hc0 (Kd.C_below hD hW) hc1 (C_nil _ _) (Nat.le_refl _) (C_nil _ _) (Nat.le_refl _) (C_nil _ _) (Nat.le_refl _) hwd hv (fun q => ⟨hsd, hss, hs8 q⟩) (LaidL.below ⟨hL⟩ hW) (Nat.zero_le _) (fun x hx => by cases hx) (fun x hx => by cases hx) (fun x hx => by cases hx)
    rw [hcr] at h
    exact h⟩
  have H9 : Aside0 (∀ W, Below w.heap.size w W → Calls Tryz.prog 9 #[.slice A0 s.length c0, .slice A1 d.length c1, .string nm] W fun e w' => ∃ v0 v1 : Value, e = .returned (.tuple #[v0, v1, .int .i64 r2]) ∧ k49.R 72 w' W.heap.size (fun _ => True) v0 r0 ∧ (Kd.slice 89 (Kd.slice 87 k64)).R 41 w' W.heap.size (fun _ => True) v1 r1 ∧ Below W.heap.size W w') := ⟨fun W hW => (drop_walk k A0 c0 s A1 c1 d nm r0 r1 r2 W (Kd.C_below hS hW) hc0 (Kd.C_below hD hW) hc1 hwd (fun q => ⟨hsd, hss, hsf (by rw [hv] at q; exact Option.some.inj q)⟩) (LaidL.below ⟨hL⟩ hW) hdr).mono fun e w' ⟨v0, v1, N, he, hv0, hv1, hb⟩ => ⟨v0, v1, he, Kd.R_mono (Kd.S_R hv0) (fun _ _ => trivial), Kd.R_mono (Kd.S_R hv1) (fun _ _ => trivial), hb⟩⟩
  have H14 : Aside0 (∀ W, Below w.heap.size w W → Calls Tryz.prog 14 #[.slice A0 s.length c0, .string nm, .string ⟨#[97]⟩] W fun e w' => ∃ v0 : Value, e = .returned (.tuple #[v0, .int .i64 xe]) ∧ k49.R 72 w' W.heap.size (fun _ => True) v0 x0 ∧ Below W.heap.size W w') := ⟨fun W hW => by
    have h := add_walk k A0 c0 s nm ⟨#[97]⟩ vs W (Kd.C_below hS hW) hc0 hvs (fun q => ⟨hss, hsp q⟩) (LaidL.below ⟨hL⟩ hW)
    rw [hx] at h
    exact h.mono fun e w' ⟨v0, he, hv, hb⟩ => ⟨v0, he, Kd.S_R (S_a hv), hb⟩⟩
  have HSS := Aside0.mk (fun W (hW : Below w.heap.size w W) => Kd.C_below hS hW)
  have HDD := Aside0.mk (fun W (hW : Below w.heap.size w W) => Kd.C_below hD hW)
  have HRR := Aside0.mk (fun W (hW : Below w.heap.size w W) => Kd.C_below hR hW)
  have HAW : Aside0 (∀ W, Below w.heap.size w W → Calls Tryz.prog 12 #[] W fun e w' => e = .returned (.bool true) ∧ Below W.heap.size W w') := ⟨fun W hW => awake_walk W (LaidL.below ⟨hL⟩ hW)⟩
  clear hS hD hR hG hss hsd hsr hwd hwr hv hvs hs8 hsf hsp hi hd hcr hdr hx hL
  go_enter Tryz.func6, Tryz.ntmps6
  go_upto_region 2 with (first
    | (go_at_call 19; refine H19.out.mono ?_; rintro e w1 ⟨v7, rfl, hv7, hb1⟩; obtain ⟨A7, c7, e7, hl7, hC7⟩ := Kd.S_reads (S_a hv7); subst e7; have HC7 := Aside0.mk hC7; have HB1 := Aside0.mk hb1; clear hv7 hC7 hb1)
    | (go_at_call 20; refine (H20.out _ HB1.out).mono ?_; rintro e w2 ⟨v8, rfl, hv8, hb2⟩; obtain ⟨A8, c8, e8, hl8, hC8⟩ := Kd.S_reads hv8; subst e8; have HC8 := Aside0.mk hC8; have HC7 := Aside0.mk (Kd.C_below HC7.out hb2); have HB1 := Aside0.mk (below_step HB1.out hb2); clear hv8 hC8 hb2)
    | (go_at_call 21; refine (H21.out _ HB1.out).mono ?_; rintro e w3 ⟨v9, rfl, hv9, hb3⟩; obtain ⟨A9, c9, e9, hl9, hC9⟩ := Kd.S_reads hv9; subst e9; have HC9 := Aside0.mk hC9; have HC7 := Aside0.mk (Kd.C_below HC7.out hb3); have HC8 := Aside0.mk (Kd.C_below HC8.out hb3); have HB1 := Aside0.mk (below_step HB1.out hb3); clear hv9 hC9 hb3))
  clear H19 H20 H21
  have HBW := HB1
  clear HB1
  have HB := Aside0.mk (Below.refl w3.heap.size w3)
  go_upto_block 0 with (first
    | (go_at_call 22; refine (H22.out _ (below_step HBW.out HB.out)).mono ?_; rintro e wa1 ⟨va1, rfl, hv4, hb4⟩; obtain ⟨Af, cf, ef⟩ := Kd.R_slice hv4; subst ef; have HF := Aside0.mk (Kd.R_lower hv4 HB.out.size); have HK := Aside0.mk (Sk.refl wa1); have HB := Aside0.mk (below_step HB.out hb4); clear hv4 hb4 H22))
  go_cut [] (fun wx => Aside0 (Below w3.heap.size w3 wx))
  case first =>
    have hfl := (Kd.R_reads' HF.out).2.2.2.1
    go_wp2_with fail
    go_loopg [16] i1.length (fun gk vg wx => ∃ (i : Nat), i + gk = i1.length ∧ vg = .int .i64 i ∧ Aside0 (Sk wa1 wx) ∧ Aside0 (Below w3.heap.size w3 wx))
    case atStart => exact ⟨0, by omega, rfl, HK, HB⟩
    case round =>
      clear HK HB
      obtain ⟨i, hi, rfl, HK, HB⟩ := hrel
      cases gk with
      | zero =>
        have hii : ¬ (i : Int) < (i1.length : Int) := by omega
        go_wp2_with fail
        go_meet
        exact HB
      | succ gk =>
        have hlt : i < i1.length := by omega
        have hii : (i : Int) < (i1.length : Int) := by omega
        have hi0 : (0 : Int) ≤ (i : Int) := by omega
        obtain ⟨g, e, hg1, oki, cc, hM, hcc⟩ := Sk.at HF.out ([] : Rows) i hlt
        subst e
        rw [List.getD_eq_getElem?_getD, List.getElem?_eq_getElem hlt] at hM
        obtain ⟨vr, rfl, hRr⟩ := hM
        change (Kd.slice 87 k64).R 89 wa1 w3.heap.size oki vr i1[i] at hRr
        obtain ⟨Ai, ci, rfl⟩ := Kd.R_slice hRr
        have x9 : wr.cell? ⟨g, i, none⟩ = some (.slice Ai i1[i].length ci) := by have := hcc 0 _ rfl rfl wr HK.out; simpa [Kd.slice] using this
        have HSP := Aside0.mk (spoil_walk (.slice Ai i1[i].length ci) i1[i] w3.heap.size oki wa1 wr hRr HK.out)
        clear hcc hRr
        generalize i1[i] = row at *
        go_wp2_with (go_at_call 23; refine HSP.out.mono ?_; rintro e w7 ⟨rfl, hk7, hb7⟩; have HK7 := Aside0.mk hk7; have HB7 := Aside0.mk (HB.out.trans hb7); clear hk7 hb7)
        go_roundg gk
        case measure => omega
        case rel => exact ⟨i + 1, by omega, by first | rfl | (simp; done) | (simp; unfold wrap64; omega), HK7, HB7⟩
  case rest =>
  clear HF HK HB
  have HB := hcut
  clear hcut
  go_upto_block 2 with (first
    | (go_at_call 24; refine (H24.out _ (below_step HBW.out HB.out)).mono ?_; rintro e wa2 ⟨va2, rfl, hv4, hb4⟩; obtain ⟨Af, cf, ef⟩ := Kd.R_slice hv4; subst ef; have HF := Aside0.mk (Kd.R_lower hv4 HB.out.size); have HK := Aside0.mk (Sk.refl wa2); have HB := Aside0.mk (below_step HB.out hb4); clear hv4 hb4 H24))
  go_cut [] (fun wx => Aside0 (Below w3.heap.size w3 wx))
  case first =>
    have hfl := (Kd.R_reads' HF.out).2.2.2.1
    go_wp2_with fail
    go_loopg [17] d1.length (fun gk vg wx => ∃ (i : Nat), i + gk = d1.length ∧ vg = .int .i64 i ∧ Aside0 (Sk wa2 wx) ∧ Aside0 (Below w3.heap.size w3 wx))
    case atStart => exact ⟨0, by omega, rfl, HK, HB⟩
    case round =>
      clear HK HB
      obtain ⟨i, hi, rfl, HK, HB⟩ := hrel
      cases gk with
      | zero =>
        have hii : ¬ (i : Int) < (d1.length : Int) := by omega
        go_wp2_with fail
        go_meet
        exact HB
      | succ gk =>
        have hlt : i < d1.length := by omega
        have hii : (i : Int) < (d1.length : Int) := by omega
        have hi0 : (0 : Int) ≤ (i : Int) := by omega
        obtain ⟨g, e, hg1, oki, cc, hM, hcc⟩ := Sk.at HF.out ([] : Rows) i hlt
        subst e
        rw [List.getD_eq_getElem?_getD, List.getElem?_eq_getElem hlt] at hM
        obtain ⟨vr, rfl, hRr⟩ := hM
        change (Kd.slice 87 k64).R 89 wa2 w3.heap.size oki vr d1[i] at hRr
        obtain ⟨Ai, ci, rfl⟩ := Kd.R_slice hRr
        have x9 : wr.cell? ⟨g, i, none⟩ = some (.slice Ai d1[i].length ci) := by have := hcc 0 _ rfl rfl wr HK.out; simpa [Kd.slice] using this
        have HSP := Aside0.mk (spoil_walk (.slice Ai d1[i].length ci) d1[i] w3.heap.size oki wa2 wr hRr HK.out)
        clear hcc hRr
        generalize d1[i] = row at *
        go_wp2_with (go_at_call 23; refine HSP.out.mono ?_; rintro e w7 ⟨rfl, hk7, hb7⟩; have HK7 := Aside0.mk hk7; have HB7 := Aside0.mk (HB.out.trans hb7); clear hk7 hb7)
        go_roundg gk
        case measure => omega
        case rel => exact ⟨i + 1, by omega, by first | rfl | (simp; done) | (simp; unfold wrap64; omega), HK7, HB7⟩
  case rest =>
  clear HF HK HB
  have HB := hcut
  clear hcut
  go_upto_block 4 with (first
    | (go_at_call 18; refine (H18.out _ (below_step HBW.out HB.out)).mono ?_; rintro e wa3 ⟨vt, vf, rfl, hvt, hvf, hb4⟩; obtain ⟨At, ct, et⟩ := Kd.R_slice hvt; subst et; obtain ⟨Af, cf, ef⟩ := Kd.R_slice hvf; subst ef; have HT := Aside0.mk (Kd.R_lower hvt HB.out.size); have HF := Aside0.mk (Kd.R_lower hvf HB.out.size); have HB := Aside0.mk (below_step HB.out hb4); have HSP := Aside0.mk (spoilS_walk _ t1 w3.heap.size _ wa3 wa3 HT.out (Sk.refl wa3)); clear hvt hvf hb4 HT H18)
    | (go_at_call 25; refine HSP.out.mono ?_; rintro e wa3b ⟨rfl, hk4, hb4⟩; have HK := Aside0.mk hk4; have HB := Aside0.mk (HB.out.trans hb4); clear hk4 hb4 HSP))
  go_cut [] (fun wx => Aside0 (Below w3.heap.size w3 wx))
  case first =>
    have hfl := (Kd.R_reads' HF.out).2.2.2.1
    go_wp2_with fail
    go_loopg [20] f1.length (fun gk vg wx => ∃ (i : Nat), i + gk = f1.length ∧ vg = .int .i64 i ∧ Aside0 (Sk wa3 wx) ∧ Aside0 (Below w3.heap.size w3 wx))
    case atStart => exact ⟨0, by omega, rfl, HK, HB⟩
    case round =>
      clear HK HB
      obtain ⟨i, hi, rfl, HK, HB⟩ := hrel
      cases gk with
      | zero =>
        have hii : ¬ (i : Int) < (f1.length : Int) := by omega
        go_wp2_with fail
        go_meet
        exact HB
      | succ gk =>
        have hlt : i < f1.length := by omega
        have hii : (i : Int) < (f1.length : Int) := by omega
        have hi0 : (0 : Int) ≤ (i : Int) := by omega
        obtain ⟨g, e, hg1, oki, cc, hM, hcc⟩ := Sk.at HF.out ([] : Rows) i hlt
        subst e
        rw [List.getD_eq_getElem?_getD, List.getElem?_eq_getElem hlt] at hM
        obtain ⟨vr, rfl, hRr⟩ := hM
        change (Kd.slice 87 k64).R 89 wa3 w3.heap.size oki vr f1[i] at hRr
        obtain ⟨Ai, ci, rfl⟩ := Kd.R_slice hRr
        have x9 : wr.cell? ⟨g, i, none⟩ = some (.slice Ai f1[i].length ci) := by have := hcc 0 _ rfl rfl wr HK.out; simpa [Kd.slice] using this
        have HSP := Aside0.mk (spoil_walk (.slice Ai f1[i].length ci) f1[i] w3.heap.size oki wa3 wr hRr HK.out)
        clear hcc hRr
        generalize f1[i] = row at *
        go_wp2_with (go_at_call 23; refine HSP.out.mono ?_; rintro e w7 ⟨rfl, hk7, hb7⟩; have HK7 := Aside0.mk hk7; have HB7 := Aside0.mk (HB.out.trans hb7); clear hk7 hb7)
        go_roundg gk
        case measure => omega
        case rel => exact ⟨i + 1, by omega, by first | rfl | (simp; done) | (simp; unfold wrap64; omega), HK7, HB7⟩
  case rest =>
  clear HF HK HB
  have HB := hcut
  clear hcut
  go_upto_block 6 with (first
    | (go_at_call 9; refine (H9.out _ (below_step HBW.out HB.out)).mono ?_; rintro e wa4 ⟨vt, vf, rfl, hvt, hvf, hb4⟩; obtain ⟨At, ct, et⟩ := Kd.R_slice hvt; subst et; obtain ⟨Af, cf, ef⟩ := Kd.R_slice hvf; subst ef; have HT := Aside0.mk (Kd.R_lower hvt HB.out.size); have HF := Aside0.mk (Kd.R_lower hvf HB.out.size); have HB := Aside0.mk (below_step HB.out hb4); have HSP := Aside0.mk (spoilS_walk _ r0 w3.heap.size _ wa4 wa4 HT.out (Sk.refl wa4)); clear hvt hvf hb4 HT H9)
    | (go_at_call 25; refine HSP.out.mono ?_; rintro e wa4b ⟨rfl, hk4, hb4⟩; have HK := Aside0.mk hk4; have HB := Aside0.mk (HB.out.trans hb4); clear hk4 hb4 HSP))
  go_cut [] (fun wx => Aside0 (Below w3.heap.size w3 wx))
  case first =>
    have hfl := (Kd.R_reads' HF.out).2.2.2.1
    go_wp2_with fail
    go_loopg [21] r1.length (fun gk vg wx => ∃ (i : Nat), i + gk = r1.length ∧ vg = .int .i64 i ∧ Aside0 (Sk wa4 wx) ∧ Aside0 (Below w3.heap.size w3 wx))
    case atStart => exact ⟨0, by omega, rfl, HK, HB⟩
    case round =>
      clear HK HB
      obtain ⟨i, hi, rfl, HK, HB⟩ := hrel
      cases gk with
      | zero =>
        have hii : ¬ (i : Int) < (r1.length : Int) := by omega
        go_wp2_with fail
        go_meet
        exact HB
      | succ gk =>
        have hlt : i < r1.length := by omega
        have hii : (i : Int) < (r1.length : Int) := by omega
        have hi0 : (0 : Int) ≤ (i : Int) := by omega
        obtain ⟨g, e, hg1, oki, cc, hM, hcc⟩ := Sk.at HF.out ([] : Rows) i hlt
        subst e
        rw [List.getD_eq_getElem?_getD, List.getElem?_eq_getElem hlt] at hM
        obtain ⟨vr, rfl, hRr⟩ := hM
        change (Kd.slice 87 k64).R 89 wa4 w3.heap.size oki vr r1[i] at hRr
        obtain ⟨Ai, ci, rfl⟩ := Kd.R_slice hRr
        have x9 : wr.cell? ⟨g, i, none⟩ = some (.slice Ai r1[i].length ci) := by have := hcc 0 _ rfl rfl wr HK.out; simpa [Kd.slice] using this
        have HSP := Aside0.mk (spoil_walk (.slice Ai r1[i].length ci) r1[i] w3.heap.size oki wa4 wr hRr HK.out)
        clear hcc hRr
        generalize r1[i] = row at *
        go_wp2_with (go_at_call 23; refine HSP.out.mono ?_; rintro e w7 ⟨rfl, hk7, hb7⟩; have HK7 := Aside0.mk hk7; have HB7 := Aside0.mk (HB.out.trans hb7); clear hk7 hb7)
        go_roundg gk
        case measure => omega
        case rel => exact ⟨i + 1, by omega, by first | rfl | (simp; done) | (simp; unfold wrap64; omega), HK7, HB7⟩
  case rest =>
  clear HF HK HB
  have HB := hcut
  clear hcut
  go_upto_region 26 with (first
    | (go_at_call 14; refine (H14.out _ (below_step HBW.out HB.out)).mono ?_; rintro e wt ⟨vt, rfl, hvt, hb4⟩; obtain ⟨At, ct, et⟩ := Kd.R_slice hvt; subst et; have HB0 := HB; have HT := Aside0.mk (Kd.R_lower hvt HB.out.size); have HB := Aside0.mk (below_step HB.out hb4); have HSP := Aside0.mk (spoilS_walk _ x0 w3.heap.size _ wt wt HT.out (Sk.refl wt)); clear hvt hb4 HT HB0 H14)
    | (go_at_call 25; refine HSP.out.mono ?_; rintro e wu ⟨rfl, hk4, hb4⟩; have HB := Aside0.mk (HB.out.trans hb4); clear hk4 hb4 HSP))
  have HB10 := Aside0.mk (sameS_walk A0 c0 A7 c7 s wu (HSS.out _ (below_step HBW.out HB.out)) hc0 (Kd.C_below HC7.out HB.out) hl7)
  go_wp2_with (first
    | (go_at_call 10; refine HB10.out.mono ?_; rintro e wa ⟨rfl, hb4⟩; have HB := Aside0.mk (below_step HB.out hb4); have HB11 := Aside0.mk (sameData_walk A1 c1 A8 c8 d wa (HDD.out _ (below_step HBW.out HB.out)) hc1 (Kd.C_below HC8.out HB.out) hl8); clear hb4)
    | (go_at_call 11; refine HB11.out.mono ?_; rintro e wb ⟨rfl, hb4⟩; have HB := Aside0.mk (below_step HB.out hb4); have HB26 := Aside0.mk (sameLists_walk A3 c3 A9 c9 rows wb (HRR.out _ (below_step HBW.out HB.out)) hc3 (Kd.C_below HC9.out HB.out) hl9); clear hb4)
    | (go_at_call 26; refine HB26.out.mono ?_; rintro e wd ⟨rfl, hb4⟩; have HB := Aside0.mk (below_step HB.out hb4); clear hb4)
    | (go_at_call 12; refine (HAW.out _ (below_step HBW.out HB.out)).mono ?_; rintro e we ⟨rfl, hb4⟩; have HB := Aside0.mk (below_step HB.out hb4); clear hb4))
  go_ret
  exact ⟨rfl, below_step HBW.out HB.out⟩
end Go.Proofs.YthgfdnffnbclpaaGreatDoor.PAll
namespace Go.Proofs.YthgfdnffnbclpaaGreatDoor.PAll
open Go.RowKit Go.Proofs.YthgfdnffnbclpaaGreatDoorW.PrintWords Go.Proofs.YthgfdnffnbclpaaGreatDoorW.PrintLast Go.Proofs.YthgfdnffnbclpaaGreatDoorW.PrintMore

end Go.Proofs.YthgfdnffnbclpaaGreatDoor.PAll
namespace Go.Proofs.YthgfdnffnbclpaaGreatDoor.PAll
open Go.RowKit Go.Proofs.YthgfdnffnbclpaaGreatDoorW.PrintWords Go.Proofs.YthgfdnffnbclpaaGreatDoorW.PrintLast Go.Proofs.YthgfdnffnbclpaaGreatDoorW.PrintMore

theorem tabB_more {b : List S49} {t : S49} (h : tabB b t = true) : t.f2.length ≤ 4 ∧ t.f3.length ≤ 4 ∧ risB t.f4 (t.f1.length : Int) = true := by
  unfold tabB at h
  split at h
  · split at h
    · cases h
    split at h
    · cases h
    split at h
    · cases h
    simp only [Bool.and_eq_true] at h
    exact ⟨by omega, by omega, h.1⟩
  · cases h
theorem ref_early {s : List S49} {n : Nat} (hv : validB s = true) (hn : n < s.length) {r : S75} (hr : r ∈ s[n].f3) : 0 ≤ r.f1 ∧ r.f1 < (n : Int) ∧ r.f0.length ≤ 8 := by
  have hat := (validB_at hv).2
  have h1 := hat n hn
  rw [rdT49 hn] at h1
  have hb := (tabB_facts h1).2.2 r hr
  have hlen : (s.take n).length = n := by rw [List.length_take]; omega
  unfold refB at hb
  rw [hlen] at hb
  split at hb
  · cases hb
  split at hb
  · cases hb
  split at hb
  · cases hb
  split at hb
  · cases hb
  split at hb
  · rename_i q0 q1 q2 q3 q4
    refine ⟨by omega, by omega, ?_⟩
    obtain ⟨j, hj⟩ : ∃ j : Nat, r.f1 = (j : Int) := ⟨r.f1.toNat, by omega⟩
    rw [hj] at q1 q3 q4
    have hjn : j < n := by omega
    have e : rd_T49 (s.take n) (j : Int) = s[j] := by
      unfold rd_T49
      rw [Int.toNat_natCast, List.getD_eq_getElem?_getD, List.getElem?_take, if_pos hjn, List.getElem?_eq_getElem (by omega)]
      rfl
    rw [e] at q3 q4
    have h2 := hat j (by omega)
    rw [rdT49 (by omega : j < s.length)] at h2
    obtain ⟨k1, k2, _⟩ := tabB_facts h2
    have hm : rd_L6 s[j].f2 r.f2 ∈ s[j].f2 := by
      unfold rd_L6
      have hl : r.f2.toNat < s[j].f2.length := by omega
      rw [List.getD_eq_getElem?_getD, List.getElem?_eq_getElem hl]
      exact List.getElem_mem hl
    have := risB_len (k2 _ hm) (by omega)
    omega
  · cases hb
theorem ref_lt {s : List S49} (hv : validB s = true) : ∀ t ∈ s, ∀ r ∈ t.f3, r.f1 < (s.length : Int) := fun t ht r hr => by
  obtain ⟨n, hn, rfl⟩ := List.getElem_of_mem ht
  have := (ref_early hv hn hr).2.1; omega
def dropB (s : List S49) (d : Data) (nm : ByteArray) : List S49 × Data × Int :=
  if dataB s d = true then if (findB s nm).2 = true then dropAt s d (findB s nm).1.toNat else ([], [], 71) else ([], [], 1)
theorem drop_is (s : List S49) (hw : ∀ t ∈ s, wfT t) (d : Data) (nm : ByteArray) : Ev (fun k => dropP k s d nm) (dropB s d nm) := by
  obtain ⟨K, hK⟩ := data_is s hw d
  refine ⟨K, fun k hk => ?_⟩
  have h := hK k hk
  simp only at h
  show dropP k s d nm = _
  unfold dropP dropB
  rw [h, Option.bind_some]
  cases hd : dataB s d with
  | false => rfl
  | true =>
    obtain ⟨hv, hl, hf, _⟩ := dataB_facts hd
    rw [if_pos rfl, if_pos rfl]
    obtain ⟨f1, f2⟩ := find_pos hv nm
    by_cases q : 0 ≤ findP nm 0 s
    · rw [if_neg (by omega), f1 q, if_pos rfl]
    · rw [if_pos (by omega), f2 q]; rfl
end Go.Proofs.YthgfdnffnbclpaaGreatDoor.PAll
namespace Go.Proofs.YthgfdnffnbclpaaGreatDoor.PAll
open Go.RowKit Go.Proofs.YthgfdnffnbclpaaGreatDoorW.PrintWords Go.Proofs.YthgfdnffnbclpaaGreatDoorW.PrintLast Go.Proofs.YthgfdnffnbclpaaGreatDoorW.PrintMore

theorem ris_pw {l : List Int} {n : Int} (h : risB l n = true) : l.Pairwise (· < ·) := by
  have hf := ris_facts l n l.length 0 (by omega) h
  have key : ∀ (b a : Nat), a < b → b < l.length → rd l (a : Int) < rd l (b : Int) := by
    intro b
    induction b with
    | zero => intro a ha; omega
    | succ b ih =>
      intro a ha hb
      have h1 := (hf (b + 1) (by omega) hb).2.2 (by omega)
      rw [show b + 1 - 1 = b by omega] at h1
      by_cases e : a = b
      · subst e; exact h1
      · have := ih a (by omega) (by omega); omega
  rw [List.pairwise_iff_getElem]
  intro a b ha hb hab
  have := key b a hab hb
  rwa [rd_at ha, rd_at hb] at this
end Go.Proofs.YthgfdnffnbclpaaGreatDoor.PAll
namespace Go.Proofs.YthgfdnffnbclpaaGreatDoor.PAll
open Go.RowKit Go.Proofs.YthgfdnffnbclpaaGreatDoorW.PrintWords Go.Proofs.YthgfdnffnbclpaaGreatDoorW.PrintLast Go.Proofs.YthgfdnffnbclpaaGreatDoorW.PrintMore

end Go.Proofs.YthgfdnffnbclpaaGreatDoor.PAll
namespace Go.Proofs.YthgfdnffnbclpaaGreatDoor.PAll
open Go.RowKit Go.Proofs.YthgfdnffnbclpaaGreatDoorW.PrintWords Go.Proofs.YthgfdnffnbclpaaGreatDoorW.PrintLast Go.Proofs.YthgfdnffnbclpaaGreatDoorW.PrintMore

end Go.Proofs.YthgfdnffnbclpaaGreatDoor.PAll
