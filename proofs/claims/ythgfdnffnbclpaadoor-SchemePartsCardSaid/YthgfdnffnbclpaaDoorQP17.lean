import Derived.Test.YthgfdnffnbclpaaDoorQP15
import Derived.Test.YthgfdnffnbclpaaDoorQP16
set_option linter.unusedVariables false
set_option linter.unusedSimpArgs false
namespace Go.Proofs.YthgfdnffnbclpaaDoor.PAll
open Go.RowKit Go.Proofs.YthgfdnffnbclpaaDoorW.PrintWords Go.Proofs.YthgfdnffnbclpaaDoorW.PrintLast Go.Proofs.YthgfdnffnbclpaaDoorW.PrintMore

theorem goneB_snoc (a i : Nat) : goneB a (i + 1) = goneB a i ++ [decide (a ≤ i)] := by
  unfold goneB
  rw [List.range_succ, List.map_append]
  simp
theorem goneB_len (a i : Nat) : (goneB a i).length = i := by unfold goneB; simp
def PartsCase (k : Nat) (s : List S49) (d : Data) (nm : ByteArray) (rows : Rows) (f : Data) (e1 : Int) (g : Data) (e2 : Int) (g2 : Data) (e3 : Int) : Prop :=
  (g = f ∧ e1 ≠ 0 ∧ e2 ≠ 0) ∨ (g2 = f ∧ e1 ≠ 0 ∧ e2 = 0 ∧ e3 ≠ 0) ∨
  (g2 = f ∧ e1 = 0 ∧ e2 = 0 ∧ e3 = 0 ∧ f.length = d.length ∧ ∃ n : Nat, n < d.length ∧ (rd_L13 f (n : Int)).length = (rd_L13 d (n : Int)).length + rows.length ∧ (rd_L13 f (n : Int)).length ≤ 1000 ∧ scheme_Find.f k s nm = some ((n : Int), true) ∧
    deleteP k s f nm (goneB (rd_L13 d (n : Int)).length ((rd_L13 d (n : Int)).length + rows.length)) = some (d, 0))

set_option maxHeartbeats 4000000 in
set_option maxRecDepth 100000 in
theorem parts_law (k : Nat) (A0 : Option Addr) (c0 : Nat) (s : List S49) (A1 : Option Addr) (c1 : Nat) (d : Data) (nm : ByteArray) (A3 : Option Addr) (c3 : Nat) (rows : Rows) (a4 : Int) (kk : Nat) (f : Data) (e1 : Int) (g : Data) (e2 : Int) (g2 : Data) (e3 : Int) (w : World)
    (hS : Kd.C k49 w A0 s.length s) (hc0 : s.length ≤ c0) (hD : Kd.C (Kd.slice 51 (Kd.slice 64 k64)) w A1 d.length d) (hc1 : d.length ≤ c1) (hR : Kd.C (Kd.slice 64 k64) w A3 rows.length rows) (hc3 : rows.length ≤ c3)
    (ha : 0 ≤ a4 ∧ a4 ≤ 255) (hkk : kk = min a4.toNat rows.length)
    (hwd : wfData d) (hwg : wfData g) (hwf : wfData f) (hwr : wfRows rows) (hwr1 : wfRows (rows.take kk)) (hwr2 : wfRows (rows.drop kk))
    (hsd : dataP k s d = some true → smallData d) (hsg : dataP k s g = some true → smallData g) (hsf : dataP k s f = some true → smallData f) (hrl : rows.length ≤ 6000000000000)
    (hsr : ∀ (d' : Data) (rows' : Rows), dataP k s d' = some true → 0 ≤ findP nm 0 s → errsP (rd_T49 s (findP nm 0 s)) rows' = 0 → rows'.length ≤ 1000 → smallRows rows') (hL : LaidL w)
    (h1 : insertP k s d nm rows = some (f, e1)) (h2 : insertP k s d nm (rows.take kk) = some (g, e2)) (h3 : insertP k s g nm (rows.drop kk) = some (g2, e3))
    (hc : PartsCase k s d nm rows f e1 g e2 g2 e3) :
    Calls Tryd.prog 6 #[.slice A0 s.length c0, .slice A1 d.length c1, .string nm, .slice A3 rows.length c3, .int .u8 a4] w fun e w' => e = .returned (.bool true) ∧ Below w.heap.size w w' := by
  have hkl : kk ≤ rows.length := by omega
  have HI1 : Aside0 (∀ W, Below w.heap.size w W → Calls Tryd.prog 15 #[.slice A0 s.length c0, .slice A1 d.length c1, .string nm, .slice A3 rows.length c3] W fun e w' => ∃ (A : Option Addr) (c : Nat), e = .returned (.tuple #[.slice A f.length c, .int .i64 e1]) ∧ f.length ≤ c ∧ Kd.C (Kd.slice 51 (Kd.slice 64 k64)) w' A f.length f ∧ Below W.heap.size W w') := ⟨fun W hW => insert_walk k A0 c0 s A1 c1 d nm A3 c3 rows f e1 W (Kd.C_below hS hW) hc0 (Kd.C_below hD hW) hc1 (Kd.C_below hR hW) hc3 hwd hwr hsd hrl (hsr d rows) (LaidL.below ⟨hL⟩ hW) h1⟩
  have hC1 : Kd.C (Kd.slice 64 k64) w A3 (rows.take kk).length (rows.take kk) := by
    have := Kd.C_take (m := kk) hR hkl
    exact this
  have HI2 : Aside0 (∀ W, Below w.heap.size w W → Calls Tryd.prog 15 #[.slice A0 s.length c0, .slice A1 d.length c1, .string nm, .slice A3 kk c3] W fun e w' => ∃ (A : Option Addr) (c : Nat), e = .returned (.tuple #[.slice A g.length c, .int .i64 e2]) ∧ g.length ≤ c ∧ Kd.C (Kd.slice 51 (Kd.slice 64 k64)) w' A g.length g ∧ Below W.heap.size W w') := ⟨fun W hW => by
    have hl : (rows.take kk).length = kk := by rw [List.length_take]; omega
    have := insert_walk k A0 c0 s A1 c1 d nm A3 c3 (rows.take kk) g e2 W (Kd.C_below hS hW) hc0 (Kd.C_below hD hW) hc1 (Kd.C_below hC1 hW) (by omega) hwd hwr1 hsd (by omega) (hsr d _) (LaidL.below ⟨hL⟩ hW) h2
    rw [hl] at this
    exact this⟩
  obtain ⟨A4, hA4⟩ : ∃ A4, A4 = (if c3 = kk then A3 else (A3 : Option Addr).map (·.add (kk * 1))) := ⟨_, rfl⟩
  obtain ⟨c4, hc4⟩ : ∃ c4, c4 = c3 - kk := ⟨_, rfl⟩
  obtain ⟨n4, hn4⟩ : ∃ n4, n4 = rows.length - kk := ⟨_, rfl⟩
  have hl4 : (rows.drop kk).length = n4 := by rw [List.length_drop, hn4]
  have hC4 : Kd.C (Kd.slice 64 k64) w A4 (rows.drop kk).length (rows.drop kk) := by
    have := Kd.C_drop (m := kk) (c := c3) hR hkl hc3
    rw [hA4]
    exact this
  have HI3 : Aside0 (∀ (A : Option Addr) (c : Nat) W, Below w.heap.size w W → Kd.C (Kd.slice 51 (Kd.slice 64 k64)) W A g.length g → g.length ≤ c → Calls Tryd.prog 15 #[.slice A0 s.length c0, .slice A g.length c, .string nm, .slice A4 n4 c4] W fun e w' => ∃ (A : Option Addr) (c : Nat), e = .returned (.tuple #[.slice A g2.length c, .int .i64 e3]) ∧ g2.length ≤ c ∧ Kd.C (Kd.slice 51 (Kd.slice 64 k64)) w' A g2.length g2 ∧ Below W.heap.size W w') := ⟨fun A c W hW hC hcc => by
    have := insert_walk k A0 c0 s A c g nm A4 c4 (rows.drop kk) g2 e3 W (Kd.C_below hS hW) hc0 hC hcc (Kd.C_below hC4 hW) (by omega) hwg hwr2 hsg (by omega) (hsr g _) (LaidL.below ⟨hL⟩ hW) h3
    rw [hl4] at this
    exact this⟩
  have HSM : Aside0 (∀ (l : Data) (A : Option Addr) (c : Nat) (B : Option Addr) (c' : Nat) (W : World), Kd.C (Kd.slice 51 (Kd.slice 64 k64)) W A l.length l → l.length ≤ c → Kd.C (Kd.slice 51 (Kd.slice 64 k64)) W B l.length l → l.length ≤ c' → Calls Tryd.prog 16 #[.slice A l.length c, .slice B l.length c'] W fun e w' => e = .returned (.bool true) ∧ Below W.heap.size W w') := ⟨fun l A c B c' W h1 h2 h3 h4 => sameData_walk A c B c' l W h1 h2 h3 h4⟩
  have HAW : Aside0 (∀ W, Below w.heap.size w W → Calls Tryd.prog 13 #[] W fun e w' => e = .returned (.bool true) ∧ Below W.heap.size W w') := ⟨fun W hW => awake_walk W (LaidL.below ⟨hL⟩ hW)⟩
  have HFD : Aside0 (∀ n : Int, scheme_Find.f k s nm = some (n, true) → ∀ W, Below w.heap.size w W → Calls Tryd.prog 12 #[.slice A0 s.length c0, .string nm] W fun e w' => e = .returned (.tuple #[.int .i64 n, .bool true]) ∧ Below W.heap.size W w') := ⟨fun n hn W hW => scheme_Find.calls k A0 c0 s nm n true W (Kd.C_below hS hW) hc0 hn (LaidL.below ⟨hL⟩ hW)⟩
  have HDL : Aside0 (∀ (gone : List Bool) (A : Option Addr) (c : Nat) (B : Option Addr) (c' : Nat) W, deleteP k s f nm gone = some (d, 0) → Below w.heap.size w W → Kd.C (Kd.slice 51 (Kd.slice 64 k64)) W A f.length f → f.length ≤ c → Kd.C Kd.bool W B gone.length gone → gone.length ≤ c' → Calls Tryd.prog 18 #[.slice A0 s.length c0, .slice A f.length c, .string nm, .slice B gone.length c'] W fun e w' => ∃ (A : Option Addr) (c : Nat), e = .returned (.tuple #[.slice A d.length c, .int .i64 0]) ∧ d.length ≤ c ∧ Kd.C (Kd.slice 51 (Kd.slice 64 k64)) w' A d.length d ∧ Below W.heap.size W w') := ⟨fun gone A c B c' W hd hW hC hcc hB hcb => delete_walk k A0 c0 s A c f nm B c' gone d 0 W (Kd.C_below hS hW) hc0 hC hcc hB hcb hwf hsf (LaidL.below ⟨hL⟩ hW) hd⟩
  have HD := Aside0.mk hD
  have HC := Aside0.mk hc
  have HRL := Aside0.mk hrl
  have hx : wrap64 a4 = a4 := by unfold wrap64; omega
  obtain ⟨i014, hi014, _, hsz14, _⟩ := info_parts info51
  have hk0 : (0 : Int) ≤ (kk : Int) := by omega
  have hk1 : (kk : Int) ≤ (rows.length : Int) := by omega
  have hcut14 := cut_to (P := Tryd.prog) 32 51 .i64 Tryd.underlying32 hi014 A3 rows.length c3 (kk : Int) hk0 hk1 hc3
  have hcut20 := cut_from (P := Tryd.prog) 32 51 .i64 Tryd.underlying32 hi014 1 hsz14 A3 rows.length c3 (kk : Int) hk0 hk1
  rw [Int.toNat_natCast] at hcut14 hcut20
  rw [← hA4, ← hc4, ← hn4] at hcut20
  have HCUT1 := Aside0.mk hcut14
  have HCUT2 := Aside0.mk hcut20
  have HKK := Aside0.mk hkk
  clear hS hD hR hwd hwg hwf hwr hwr1 hwr2 hsd hsg hsf hsr hL h1 h2 h3 hc hC1 hC4 hA4 hc4 hn4 hl4 hrl hkl hcut14 hcut20 hsz14 hi014 hkk hk0 hk1
  go_enter Tryd.func6, Tryd.ntmps6
  go_upto_if 25 with (fail)
  go_cut [11] (fun v11 wc => v11 = .int .i64 (kk : Int) ∧ Aside0 (Below w.heap.size w wc))
  case first =>
    by_cases c7 : a4 > (rows.length : Int)
    · have e : decide ((rows.length : Int) < a4) = true := decide_eq_true c7
      rw [e]
      clear e
      go_wp2
      go_meet
      case rel => exact ⟨by have := HKK.out; rw [show (kk : Int) = (rows.length : Int) by omega], ⟨Below.refl _ _⟩⟩
    · have e : decide ((rows.length : Int) < a4) = false := decide_eq_false c7
      rw [e]
      clear e
      go_wp2
      go_meet
      case rel => exact ⟨by have := HKK.out; have e9 : a4 = (kk : Int) := (by omega); rw [e9], ⟨Below.refl _ _⟩⟩
  case rest =>
    clear hx
    obtain ⟨rfl, HB⟩ := hcut
    have hcut14 := HCUT1.out
    have hk0 : (0 : Int) ≤ (kk : Int) := by omega
    have hk1 : (kk : Int) ≤ (rows.length : Int) := by have := HKK.out; omega
    rcases HC.out with ⟨rfl, n1, n2⟩ | ⟨rfl, n1, rfl, n3⟩ | ⟨rfl, rfl, rfl, rfl, hfl, n, hnd, hfn, hf1, hfind, hdel⟩
    · have q1 : (e1 == 0) = false := beq_eq_false_iff_ne.mpr n1
      have q2 : (e2 == 0) = false := beq_eq_false_iff_ne.mpr n2
      have q3 : (e1 != 0) = true := bne_iff_ne.mpr n1
      have q4 : (e2 != 0) = true := bne_iff_ne.mpr n2
      clear HC n1 n2 HFD HDL HI3 HCUT1 HCUT2 HD HKK
      go_wp2_with (first
        | (go_at_call 15; refine (HI1.out _ HB.out).mono ?_; rintro e w1 ⟨A7, c7, rfl, hl7, hC7, hb1⟩; have HC7 := Aside0.mk hC7; have HB1 := Aside0.mk (below_step HB.out hb1); clear hC7 hb1 HI1)
        | (go_at_call 15; refine (HI2.out _ HB1.out).mono ?_; rintro e w2 ⟨A8, c8, rfl, hl8, hC8, hb2⟩; have HC8 := Aside0.mk hC8; have HC72 := Aside0.mk (Kd.C_below HC7.out hb2); have HB2 := Aside0.mk (below_step HB1.out hb2); clear hC8 hb2)
        | (go_at_call 16; refine (HSM.out _ A7 c7 A8 c8 _ HC72.out hl7 HC8.out hl8).mono ?_; rintro e w3 ⟨rfl, hb3⟩; have HB3 := Aside0.mk (below_step HB2.out hb3); clear hb3)
        | (go_at_call 13; refine (HAW.out _ HB3.out).mono ?_; rintro e w4 ⟨rfl, hb4⟩; have HB4 := Aside0.mk (below_step HB3.out hb4); clear hb4))
      go_ret
      exact ⟨rfl, HB4.out⟩
    · have q1 : (e1 == 0) = false := beq_eq_false_iff_ne.mpr n1
      have q2 : (e3 == 0) = false := beq_eq_false_iff_ne.mpr n3
      have q3 : (e1 != 0) = true := bne_iff_ne.mpr n1
      have q4 : (e3 != 0) = true := bne_iff_ne.mpr n3
      have hcut20 := HCUT2.out
      clear HC n1 n3 HFD HDL HCUT1 HCUT2 HD HKK
      go_wp2_with (first
        | (go_at_call 15; refine (HI1.out _ HB.out).mono ?_; rintro e w1 ⟨A7, c7, rfl, hl7, hC7, hb1⟩; have HC7 := Aside0.mk hC7; have HB1 := Aside0.mk (below_step HB.out hb1); clear hC7 hb1 HI1)
        | (go_at_call 15; refine (HI2.out _ HB1.out).mono ?_; rintro e w2 ⟨A8, c8, rfl, hl8, hC8, hb2⟩; have HC8 := Aside0.mk hC8; have HC72 := Aside0.mk (Kd.C_below HC7.out hb2); have HB2 := Aside0.mk (below_step HB1.out hb2); clear hC8 hb2 HI2)
        | (go_at_call 15; refine (HI3.out _ _ _ HB2.out HC8.out hl8).mono ?_; rintro e w2a ⟨A9, c9, rfl, hl9, hC9, hb9⟩; have HC9 := Aside0.mk hC9; have HC73 := Aside0.mk (Kd.C_below HC72.out hb9); have HB2a := Aside0.mk (below_step HB2.out hb9); clear hC9 hb9)
        | (go_at_call 16; refine (HSM.out _ A7 c7 A9 c9 _ HC73.out hl7 HC9.out hl9).mono ?_; rintro e w3 ⟨rfl, hb3⟩; have HB3 := Aside0.mk (below_step HB2a.out hb3); clear hb3)
        | (go_at_call 13; refine (HAW.out _ HB3.out).mono ?_; rintro e w4 ⟨rfl, hb4⟩; have HB4 := Aside0.mk (below_step HB3.out hb4); clear hb4))
      go_ret
      exact ⟨rfl, HB4.out⟩
    · have hcut20 := HCUT2.out
      have hn0 : (0 : Int) ≤ (n : Int) := by omega
      have hnd1 : (n : Int) < (d.length : Int) := by omega
      have hnf1 : (n : Int) < (g2.length : Int) := by omega
      obtain ⟨ad, Ar, cr, hAd, hx, hcr, hCr⟩ := at_L13 HD.out (n : Int) hn0 hnd1
      cases hAd
      rw [Int.toNat_natCast] at hx
      have HF := Aside0.mk (HFD.out (n : Int) hfind)
      have HATF : Aside0 (∀ (A : Option Addr) (W : World), Kd.C (Kd.slice 51 (Kd.slice 64 k64)) W A g2.length g2 → ∃ (af : Addr) (Af : Option Addr) (cf : Nat), A = some af ∧ W.cell? (af.add n) = some (.slice Af (rd_L13 g2 (n : Int)).length cf)) := ⟨fun A W hC => by
        obtain ⟨af, Af, cf, h1, h2, _, _⟩ := at_L13 hC (n : Int) hn0 hnf1
        rw [Int.toNat_natCast] at h2
        exact ⟨af, Af, cf, h1, h2⟩⟩
      generalize rd_L13 d (n : Int) = od at *
      generalize rd_L13 g2 (n : Int) = fr at *
      have HDEL := Aside0.mk hdel
      have HFN := Aside0.mk hfn
      have HF1 := Aside0.mk hf1
      have HX : Aside0 (∀ W, Below w.heap.size w W → W.cell? (ad.add n) = some (.slice Ar od.length cr)) := ⟨fun W hB => (hB.cell (World.block_lt_of_cell? w _ hx)).trans hx⟩
      have e6 : decide ((d.length : Int) ≤ (n : Int)) = false := decide_eq_false (by omega)
      have e6' : decide (d.length ≤ n) = false := decide_eq_false (by omega)
      have e7 : ((g2.length : Int) == (d.length : Int)) = true := beq_iff_eq.mpr (by omega)
      have e8 : ((g2.length : Int) != (d.length : Int)) = false := by rw [bne, e7]; rfl
      clear HC HCUT1 HCUT2 HKK HFD hx hCr hcr hfind hdel hfn hf1 hfl hnd
      go_wp2_with (first
        | (go_at_call 15; refine (HI1.out _ HB.out).mono ?_; rintro e w1 ⟨A7, c7, rfl, hl7, hC7, hb1⟩; have HC7 := Aside0.mk hC7; have HB1 := Aside0.mk (below_step HB.out hb1); clear hC7 hb1 HI1)
        | (go_at_call 15; refine (HI2.out _ HB1.out).mono ?_; rintro e w2 ⟨A8, c8, rfl, hl8, hC8, hb2⟩; have HC8 := Aside0.mk hC8; have HC72 := Aside0.mk (Kd.C_below HC7.out hb2); have HB2 := Aside0.mk (below_step HB1.out hb2); clear hC8 hb2 HI2)
        | (go_at_call 15; refine (HI3.out _ _ _ HB2.out HC8.out hl8).mono ?_; rintro e w2a ⟨A9, c9, rfl, hl9, hC9, hb9⟩; have HC9 := Aside0.mk hC9; have HC73 := Aside0.mk (Kd.C_below HC72.out hb9); have HB2a := Aside0.mk (below_step HB2.out hb9); clear hC9 hb9)
        | (go_at_call 16; refine (HSM.out _ A7 c7 A9 c9 _ HC73.out hl7 HC9.out hl9).mono ?_; rintro e w3 ⟨rfl, hb3⟩; have HB3 := Aside0.mk (below_step HB2a.out hb3); have HC74 := Aside0.mk (Kd.C_below HC73.out hb3); clear hb3)
        | (go_at_call 12; refine (HF.out _ HB3.out).mono ?_; rintro e w4 ⟨rfl, hb4⟩; have HB4 := Aside0.mk (below_step HB3.out hb4); have HC75 := Aside0.mk (Kd.C_below HC74.out hb4); clear hb4))
      obtain ⟨af, Af, cf, hA7, hxf⟩ := HATF.out A7 w4 HC75.out
      subst hA7
      have HXF : Aside0 (∀ W, Below w4.heap.size w4 W → W.cell? (af.add n) = some (.slice Af fr.length cf)) := ⟨fun W hB => (hB.cell (World.block_lt_of_cell? w4 _ hxf)).trans hxf⟩
      clear hxf HATF HC7 HC8 HC9 HC72 HC73 HC74 HB1 HB2 HB2a HB3 hl8 hl9 HF hcut14 hcut20 e6 e6' e7 e8
      go_loopg [18, 19] fr.length (fun gk v18 v19 wx => ∃ (i : Nat), i + gk = fr.length ∧ v19 = .int .i64 i ∧ Aside0 (Kd.R Kd.bool 4 wx w4.heap.size (fun _ => True) v18 (goneB od.length i)) ∧ Aside0 (Below w4.heap.size w4 wx))
      case atStart => exact ⟨0, by omega, rfl, ⟨Kd.R_nil _ _ _ _ _⟩, ⟨Below.refl _ _⟩⟩
      case round =>
        obtain ⟨i, hi, rfl, HG, HW⟩ := hrel
        have hxf := HXF.out _ HW.out
        have hxd := HX.out _ (below_step HB4.out HW.out)
        cases gk with
        | zero =>
          have hii : ¬ (i : Int) < (fr.length : Int) := by omega
          have ei : i = od.length + rows.length := by have := HFN.out; omega
          obtain ⟨Ao, co, eo⟩ := Kd.R_slice HG.out
          subst eo
          have HGC := Aside0.mk (Kd.R_reads' HG.out)
          have HDE := Aside0.mk (show deleteP k s g2 nm (goneB od.length i) = some (d, 0) by rw [ei]; exact HDEL.out)
          have HCW := Aside0.mk (Kd.C_below HC75.out HW.out)
          have HBW := Aside0.mk (below_step HB4.out HW.out)
          clear HDEL ei
          go_wp2_with (first
            | (go_at_call 18; refine (HDL.out (goneB od.length i) _ _ _ _ _ HDE.out (by repeat (first | (with_reducible first | exact HBW.out | apply below_alloc | apply pw_below_drewN | apply below_drew1) | exact HBW.out)) (by repeat (first | exact HCW.out | (with_reducible refine Kd.C_alloc ?_ _) | (with_reducible refine Kd.C_drewN ?_ _) | (with_reducible refine Kd.C_drew ?_))) hl7 (by repeat (first | exact HGC.out.2.2 | (with_reducible refine Kd.C_alloc ?_ _) | (with_reducible refine Kd.C_drewN ?_ _) | (with_reducible refine Kd.C_drew ?_))) HGC.out.2.1).mono ?_; rintro e w5 ⟨A5, c5, rfl, hl5, hC5, hb5⟩; have HC5 := Aside0.mk hC5; have HB5 := Aside0.mk (below_step (by repeat (first | (with_reducible first | exact HBW.out | apply below_alloc | apply pw_below_drewN | apply below_drew1) | exact HBW.out)) hb5); clear hC5 hb5)
            | (go_at_call 16; refine (HSM.out d A5 c5 (some ad) c1 _ HC5.out hl5 (Kd.C_below HD.out HB5.out) hc1).mono ?_; rintro e w6 ⟨rfl, hb6⟩; have HB6 := Aside0.mk (below_step HB5.out hb6); clear hb6)
            | (go_at_call 13; refine (HAW.out _ HB6.out).mono ?_; rintro e w7 ⟨rfl, hb7⟩; have HB7 := Aside0.mk (below_step HB6.out hb7); clear hb7))
          go_ret
          exact ⟨rfl, HB7.out⟩
        | succ gi =>
          have hii : (i : Int) < (fr.length : Int) := by omega
          have hil : i ≤ 1000 := by have := HF1.out; omega
          go_wp2_with ((with_reducible refine gate_builtin (b := .append) (xs := #[.tmp 102, .tmp 110]) rfl ?_); (try (refine gate_guard (by rfl) ?_; dsimp only)); at_builtin; refine Kd.R_append Kd.bool (w0 := w4) w4.heap.size rfl (.tmp 102) (.tmp 110) 38 4 (.bool false) 1 rfl Tryd.underlying38 info4 rfl (by decide) (by omega) u18 (goneB od.length i) (decide (od.length ≤ i)) [.bool (decide (od.length ≤ i))] (fun _ => True) (fun _ => False) rfl rfl ?aP (fun _ hk => hk.elim) ?aF ?aO ?aB ?aS ?aL ?_; (case aP => exact rfl); (case aB => exact (by repeat (first | (with_reducible first | exact HW.out | apply below_alloc | apply pw_below_drewN | apply below_drew1) | exact HW.out))); (case aF => exact (fun _ _ => trivial)); (case aO => exact (by (with_reducible repeat (first | apply Kd.R_alloc | apply Kd.R_drewN | apply Kd.R_drew)); exact HG.out)); (case aS => exact (below_size (by repeat (first | (with_reducible first | exact HW.out | apply below_alloc | apply pw_below_drewN | apply below_drew1) | exact HW.out)))); (case aL => rw [goneB_len]; omega); intro v500 w44 ho hb hg hat; rw [← goneB_snoc] at ho; have HO2 := Aside0.mk ho; have HW2 := Aside0.mk hb; clear ho hb hg hat)
          go_roundg gi
          case measure => omega
          case rel => exact ⟨i + 1, by omega, ret_n (by omega), HO2, HW2⟩
end Go.Proofs.YthgfdnffnbclpaaDoor.PAll
