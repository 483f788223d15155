import Derived.Test.YthgfdnffnbclpaaDoorQV16
import Derived.Test.YthgfdnffnbclpaaDoorQV14
import Derived.Test.YthgfdnffnbclpaaDoorQV08
import Derived.Test.YthgfdnffnbclpaaDoorQV15
set_option linter.unusedVariables false
set_option linter.unusedSimpArgs false
namespace Go.Proofs.YthgfdnffnbclpaaDoor.PAll
open Go.RowKit Go.Proofs.YthgfdnffnbclpaaDoorW.PrintWords Go.Proofs.YthgfdnffnbclpaaDoorW.PrintLast Go.Proofs.YthgfdnffnbclpaaDoorW.PrintMore

def smallS : List S49 := [⟨⟨#[116]⟩, [⟨⟨#[97]⟩, 1, false, 0, 9⟩, ⟨⟨#[98]⟩, 2, false, 0, 3⟩], [[0]], [], []⟩, ⟨⟨#[117]⟩, [⟨⟨#[97]⟩, 1, true, 0, 9⟩], [], [⟨[0], 0, 0⟩], []⟩]
def smallD : Data := [[[⟨1, 1, ⟨#[]⟩⟩, ⟨0, 0, ⟨#[]⟩⟩]], [[⟨1, 1, ⟨#[]⟩⟩]]]
def smallR : Rows := [[⟨1, 2, ⟨#[]⟩⟩, ⟨2, 0, ⟨#[120]⟩⟩]]
def smallF : Data := [[[⟨1, 1, ⟨#[]⟩⟩, ⟨0, 0, ⟨#[]⟩⟩], [⟨1, 2, ⟨#[]⟩⟩, ⟨2, 0, ⟨#[120]⟩⟩]], [[⟨1, 1, ⟨#[]⟩⟩]]]
theorem small_walk (w : World) : Calls Tryd.prog 31 #[] w fun e w' => ∃ (A : Option Addr) (c : Nat) (A1 : Option Addr) (c1 : Nat), e = .returned (.tuple #[.slice A smallS.length c, .slice A1 smallD.length c1]) ∧ smallS.length ≤ c ∧ Kd.C k49 w' A smallS.length smallS ∧ smallD.length ≤ c1 ∧ Kd.C (Kd.slice 51 (Kd.slice 64 k64)) w' A1 smallD.length smallD ∧ Below w.heap.size w w' := by
  refine (jointerlaw07_small.calls smallS smallD w rfl).mono ?_
  rintro e w' ⟨v0, v1, rfl, h0, h1, hb⟩
  obtain ⟨A, c, rfl, hl, hC⟩ := Kd.N_reads h0
  obtain ⟨A1, c1, rfl, hl1, hC1⟩ := Kd.N_reads h1
  exact ⟨A, c, A1, c1, rfl, hl, hC, hl1, hC1, hb⟩
theorem aw1 : scheme_Valid.f 60 smallS = some true := by decide +kernel
theorem aw2 : dataP 60 smallS smallD = some true := by decide +kernel
theorem aw3 : scheme_Find.f 60 smallS ⟨#[117]⟩ = some (1, true) := by decide +kernel
theorem aw4 : deleteP 60 smallS smallD ⟨#[116]⟩ [true] = some ([], 77) := by decide +kernel
theorem aw5 : insertP 60 smallS smallD ⟨#[116]⟩ smallR = some (smallF, 0) := by decide +kernel
theorem aw6 : smallData smallD := by unfold smallData smallRows; decide +kernel
theorem aw7 : smallRows smallR := by unfold smallRows; decide +kernel
theorem aw8 : wfData smallD := by unfold wfData wfRows wfV; decide +kernel
theorem aw9 : wfRows smallR := by unfold wfRows wfV; decide +kernel

/-- A literal's block, as a row of one's own. -/
theorem R_fresh {α : Type} (d : Kd α) (e : Nat) (W : World) (base : Nat) {xs : List α} {inner : List Value} (hrep : Reps (d.M W base (fun _ => True)) d.sz xs inner) (hb : base ≤ W.heap.size) (hm : xs.length ≤ 9223372036854775807) :
    d.R e (W.alloc (.cells inner.toArray e)) base (fun _ => True) (.slice (some ⟨W.heap.size, 0, none⟩) xs.length xs.length) xs := by
  refine ⟨fun k hk => trivial, inner, ?_, ?_⟩
  · have h2 := World.ownsRow_lit (base := base) (e := e) (size := d.sz) W inner.toArray xs.length hb (by simpa [maxLen] using hm) (by simpa using hrep.1)
    simpa using h2
  · refine hrep.imp_ (fun p c hp => d.M_mono (fun k hk => ⟨trivial, fun he => ?_⟩) (Kd.M_below (d.M_bound hp) (below_alloc (Below.refl _ _) _)))
    have h3 : k = W.heap.size := by simpa [Value.ownBlock] using he
    have := hk.2.2.1
    omega
theorem lit_bool (W : World) : Kd.C Kd.bool (W.alloc (.cells #[.bool true] 4)) (some ⟨W.heap.size, 0, none⟩) 1 [true] :=
  (Kd.R_reads' (R_fresh Kd.bool 4 W W.heap.size (xs := [true]) (inner := [.bool true]) (Reps.one (show Kd.M Kd.bool _ _ _ true [.bool true] from rfl) (Reps.none _ _)) (Nat.le_refl _) (by simp))).2.2
def rowCells : Array Value := #[.int .u8 1, .int .i64 2, .string ⟨#[]⟩, .int .u8 2, .int .i64 0, .string ⟨#[120]⟩]
theorem lit_rows (W : World) : Kd.C (Kd.slice 64 k64) ((W.alloc (.cells rowCells 64)).alloc (.cells #[.slice (some ⟨W.heap.size, 0, none⟩) 2 2] 51)) (some ⟨W.heap.size + 1, 0, none⟩) 1 smallR := by
  have h1 := R_fresh k64 64 W W.heap.size (xs := [(⟨1, 2, ⟨#[]⟩⟩ : S64), ⟨2, 0, ⟨#[120]⟩⟩]) (inner := rowCells.toList) (Reps.c3 (show Kd.M k64 _ _ _ (⟨1, 2, (⟨#[]⟩ : ByteArray)⟩ : S64) [.int .u8 1, .int .i64 2, .string (⟨#[]⟩ : ByteArray)] from (k64_mkM _ _ _ (⟨1, 2, (⟨#[]⟩ : ByteArray)⟩ : S64) )) (Reps.c3 (show Kd.M k64 _ _ _ (⟨2, 0, (⟨#[120]⟩ : ByteArray)⟩ : S64) [.int .u8 2, .int .i64 0, .string (⟨#[120]⟩ : ByteArray)] from (k64_mkM _ _ _ (⟨2, 0, (⟨#[120]⟩ : ByteArray)⟩ : S64) )) (Reps.none _ _))) (Nat.le_refl _) (by simp)
  have h2 := R_fresh (Kd.slice 64 k64) 51 (W.alloc (.cells rowCells 64)) W.heap.size (xs := smallR) (inner := [.slice (some ⟨W.heap.size, 0, none⟩) 2 2]) (Reps.one (Kd.M_row h1) (Reps.none _ _)) (by simp) (by simp [smallR])
  have h3 := (Kd.R_reads' h2).2.2
  show Kd.C _ _ _ smallR.length smallR
  simpa using h3

set_option maxHeartbeats 4000000 in
set_option maxRecDepth 100000 in
theorem awake_walk (w : World) (hL : LaidL w) : Calls Tryd.prog 13 #[] w fun e w' => e = .returned (.bool true) ∧ Below w.heap.size w w' := by
  have HSM := Aside0.mk (small_walk w)
  have hls : smallS.length = 2 := rfl
  have hld : smallD.length = 2 := rfl
  have hlr : smallR.length = 1 := rfl
  have hlf : smallF.length = 2 := rfl
  have HFV : Aside0 (∀ (A : Option Addr) (c : Nat) (W : World), Below w.heap.size w W → 2 ≤ c → Kd.C k49 W A 2 smallS → Calls Tryd.prog 12 #[.slice A 2 c, .string ⟨#[117]⟩] W fun e w' => e = .returned (.tuple #[.int .i64 1, .bool true]) ∧ Below W.heap.size W w') := ⟨fun A c W hW hc hC => scheme_Find.calls 60 A c smallS ⟨#[117]⟩ 1 true W hC hc aw3 (LaidL.below ⟨hL⟩ hW)⟩
  have HVV : Aside0 (∀ (A : Option Addr) (c : Nat) (W : World), Below w.heap.size w W → 2 ≤ c → Kd.C k49 W A 2 smallS → Calls Tryd.prog 9 #[.slice A 2 c] W fun e w' => e = .returned (.bool true) ∧ Below W.heap.size W w') := ⟨fun A c W hW hc hC => scheme_Valid.calls 60 A c smallS true W hC hc aw1 (LaidL.below ⟨hL⟩ hW)⟩
  have HVD : Aside0 (∀ (A : Option Addr) (c : Nat) (A1 : Option Addr) (c1 : Nat) (W : World), Below w.heap.size w W → 2 ≤ c → Kd.C k49 W A 2 smallS → 2 ≤ c1 → Kd.C (Kd.slice 51 (Kd.slice 64 k64)) W A1 2 smallD → Calls Tryd.prog 10 #[.slice A 2 c, .slice A1 2 c1] W fun e w' => e = .returned (.bool true) ∧ Below W.heap.size W w') := ⟨fun A c A1 c1 W hW hc hC hc1 hC1 => validData_walk 60 A c smallS A1 c1 smallD true W hC hc hC1 hc1 aw8 (LaidL.below ⟨hL⟩ hW) aw2⟩
  have HDL : Aside0 (∀ (A : Option Addr) (c : Nat) (A1 : Option Addr) (c1 : Nat) (A3 : Option Addr) (c3 : Nat) (W : World), Below w.heap.size w W → 2 ≤ c → Kd.C k49 W A 2 smallS → 2 ≤ c1 → Kd.C (Kd.slice 51 (Kd.slice 64 k64)) W A1 2 smallD → 1 ≤ c3 → Kd.C Kd.bool W A3 1 [true] → Calls Tryd.prog 18 #[.slice A 2 c, .slice A1 2 c1, .string ⟨#[116]⟩, .slice A3 1 c3] W fun e w' => ∃ (A : Option Addr) (c : Nat), e = .returned (.tuple #[.slice A 0 c, .int .i64 77]) ∧ Below W.heap.size W w') := ⟨fun A c A1 c1 A3 c3 W hW hc hC hc1 hC1 hc3 hC3 => (delete_walk 60 A c smallS A1 c1 smallD ⟨#[116]⟩ A3 c3 [true] [] 77 W hC hc hC1 hc1 hC3 hc3 aw8 aw6 (LaidL.below ⟨hL⟩ hW) aw4).mono fun e w' ⟨A, c, he, _, _, hb⟩ => ⟨A, c, he, hb⟩⟩
  have HIN : Aside0 (∀ (A : Option Addr) (c : Nat) (A1 : Option Addr) (c1 : Nat) (A3 : Option Addr) (c3 : Nat) (W : World), Below w.heap.size w W → 2 ≤ c → Kd.C k49 W A 2 smallS → 2 ≤ c1 → Kd.C (Kd.slice 51 (Kd.slice 64 k64)) W A1 2 smallD → 1 ≤ c3 → Kd.C (Kd.slice 64 k64) W A3 1 smallR → Calls Tryd.prog 15 #[.slice A 2 c, .slice A1 2 c1, .string ⟨#[116]⟩, .slice A3 1 c3] W fun e w' => ∃ (ad : Addr) (c : Nat) (A0 : Option Addr) (c0 : Nat), e = .returned (.tuple #[.slice (some ad) 2 c, .int .i64 0]) ∧ (∀ W2, Below w'.heap.size w' W2 → W2.cell? ad = some (.slice A0 2 c0)) ∧ Below W.heap.size W w') := ⟨fun A c A1 c1 A3 c3 W hW hc hC hc1 hC1 hc3 hC3 => (insert_walk 60 A c smallS A1 c1 smallD ⟨#[116]⟩ A3 c3 smallR smallF 0 W hC hc hC1 hc1 hC3 hc3 aw8 aw9 aw6 aw7 (LaidL.below ⟨hL⟩ hW) aw5).mono fun e w' ⟨A, c, he, hl, hC, hb⟩ => by
    obtain ⟨ad, A0, c0, hA, hx, _⟩ := at_L13 hC 0 (by decide) (by decide)
    subst hA
    have hx2 : w'.cell? ad = some (.slice A0 2 c0) := by rw [show (rd_L13 smallF 0).length = 2 from rfl] at hx; simpa [Addr.add] using hx
    exact ⟨ad, c, A0, c0, he, fun W2 h2 => (h2.cell (World.block_lt_of_cell? w' _ hx2)).trans hx2, hb⟩⟩
  clear hL
  go_enter Tryd.func13, Tryd.ntmps13
  go_wp2_with (first
    | (go_at_call 31; refine HSM.out.mono ?_; rintro e w1 ⟨A, c, A1, c1, rfl, hl, hC, hl1, hC1, hb1⟩; rw [hls] at hl hC ⊢; rw [hld] at hl1 hC1 ⊢; have HC := Aside0.mk hC; have HC1 := Aside0.mk hC1; have HB1 := Aside0.mk hb1; clear hC hC1 hb1)
    | (go_at_call 12; refine (HFV.out A c w1 HB1.out hl HC.out).mono ?_; rintro e w2 ⟨rfl, hb2⟩; have HB2 := Aside0.mk (below_step HB1.out hb2); have HC2 := Aside0.mk (Kd.C_below HC.out hb2); have HC12 := Aside0.mk (Kd.C_below HC1.out hb2); clear hb2)
    | (go_at_call 18; refine (HDL.out A c A1 c1 _ _ (w2.alloc _) (HB2.out.alloc HB2.out.size _) hl (Kd.C_alloc HC2.out _) hl1 (Kd.C_alloc HC12.out _) (Nat.le_refl _) (lit_bool w2)).mono ?_; rintro e w3 ⟨A5, c5, rfl, hb3⟩; have HB3 := Aside0.mk (below_step (HB2.out.alloc HB2.out.size _) hb3); have HC3 := Aside0.mk (Kd.C_below (Kd.C_alloc HC2.out _) hb3); have HC13 := Aside0.mk (Kd.C_below (Kd.C_alloc HC12.out _) hb3); clear hb3)
    | (go_at_call 15; refine (HIN.out A c A1 c1 _ _ _ ((HB3.out.alloc HB3.out.size _).alloc (Nat.le_trans HB3.out.size (by simp)) _) hl (Kd.C_alloc (Kd.C_alloc HC3.out _) _) hl1 (Kd.C_alloc (Kd.C_alloc HC13.out _) _) (Nat.le_refl _) (lit_rows w3)).mono ?_; rintro e w4 ⟨ad, c6, A7, c7, rfl, hx4, hb4⟩; have HB4 := Aside0.mk (below_step ((HB3.out.alloc HB3.out.size _).alloc (Nat.le_trans HB3.out.size (by simp)) _) hb4); have HC4 := Aside0.mk (Kd.C_below (Kd.C_alloc (Kd.C_alloc HC3.out _) _) hb4); have HC14 := Aside0.mk (Kd.C_below (Kd.C_alloc (Kd.C_alloc HC13.out _) _) hb4); have HX4 := Aside0.mk hx4; clear hb4 hx4)
    | (go_at_call 9; refine (HVV.out A c w4 HB4.out hl HC4.out).mono ?_; rintro e w5 ⟨rfl, hb5⟩)
    | (go_at_call 10; refine (HVD.out A c A1 c1 w5 (below_step HB4.out hb5) hl (Kd.C_below HC4.out hb5) hl1 (Kd.C_below HC14.out hb5)).mono ?_; rintro e w6 ⟨rfl, hb6⟩; have hcx := HX4.out w6 (below_step hb5 hb6)))
  go_ret
  exact ⟨rfl, below_step (below_step HB4.out hb5) hb6⟩
end Go.Proofs.YthgfdnffnbclpaaDoor.PAll
namespace Go.Proofs.YthgfdnffnbclpaaDoor.PAll
open Go.RowKit Go.Proofs.YthgfdnffnbclpaaDoorW.PrintWords Go.Proofs.YthgfdnffnbclpaaDoorW.PrintLast Go.Proofs.YthgfdnffnbclpaaDoorW.PrintMore

set_option maxHeartbeats 4000000 in
set_option maxRecDepth 100000 in
theorem valids_law (k : Nat) (A0 : Option Addr) (c0 : Nat) (s : List S49) (A1 : Option Addr) (c1 : Nat) (d : Data) (nm : ByteArray) (v f : Bool) (n : Int) (b : Bool) (w : World)
    (hS : Kd.C k49 w A0 s.length s) (hc0 : s.length ≤ c0) (hD : Kd.C (Kd.slice 51 (Kd.slice 64 k64)) w A1 d.length d) (hc1 : d.length ≤ c1) (hwd : wfData d) (hL : LaidL w)
    (hV1 : refValidP s = some v) (hV2 : scheme_Valid.f k s = some v) (hD1 : refDataP s d = some f) (hD2 : dataP k s d = some f) (hF1 : refFindP s nm = some (n, b)) (hF2 : scheme_Find.f k s nm = some (n, b)) :
    Calls Tryd.prog 3 #[.slice A0 s.length c0, .slice A1 d.length c1, .string nm] w fun e w' => e = .returned (.bool true) ∧ Below w.heap.size w w' := by
  have HV1 : Aside0 (∀ W, Below w.heap.size w W → Calls Tryd.prog 7 #[.slice A0 s.length c0] W fun e w' => e = .returned (.bool v) ∧ Below W.heap.size W w') := ⟨fun W hW => refValid_walk A0 c0 s v W (Kd.C_below hS hW) hc0 hV1⟩
  have HD1 : Aside0 (∀ W, Below w.heap.size w W → Calls Tryd.prog 8 #[.slice A0 s.length c0, .slice A1 d.length c1] W fun e w' => e = .returned (.bool f) ∧ Below W.heap.size W w') := ⟨fun W hW => refData_walk A0 c0 s A1 c1 d f W (Kd.C_below hS hW) hc0 (Kd.C_below hD hW) hc1 hwd hD1⟩
  have HV2 : Aside0 (∀ W, Below w.heap.size w W → Calls Tryd.prog 9 #[.slice A0 s.length c0] W fun e w' => e = .returned (.bool v) ∧ Below W.heap.size W w') := ⟨fun W hW => scheme_Valid.calls k A0 c0 s v W (Kd.C_below hS hW) hc0 hV2 (LaidL.below ⟨hL⟩ hW)⟩
  have HD2 : Aside0 (∀ W, Below w.heap.size w W → Calls Tryd.prog 10 #[.slice A0 s.length c0, .slice A1 d.length c1] W fun e w' => e = .returned (.bool f) ∧ Below W.heap.size W w') := ⟨fun W hW => validData_walk k A0 c0 s A1 c1 d f W (Kd.C_below hS hW) hc0 (Kd.C_below hD hW) hc1 hwd (LaidL.below ⟨hL⟩ hW) hD2⟩
  have HF1 : Aside0 (∀ W, Below w.heap.size w W → Calls Tryd.prog 11 #[.slice A0 s.length c0, .string nm] W fun e w' => e = .returned (.tuple #[.int .i64 n, .bool b]) ∧ Below W.heap.size W w') := ⟨fun W hW => refFind_walk A0 c0 s nm n b W (Kd.C_below hS hW) hc0 hF1⟩
  have HF2 : Aside0 (∀ W, Below w.heap.size w W → Calls Tryd.prog 12 #[.slice A0 s.length c0, .string nm] W fun e w' => e = .returned (.tuple #[.int .i64 n, .bool b]) ∧ Below W.heap.size W w') := ⟨fun W hW => scheme_Find.calls k A0 c0 s nm n b W (Kd.C_below hS hW) hc0 hF2 (LaidL.below ⟨hL⟩ hW)⟩
  have HAW : Aside0 (∀ W, Below w.heap.size w W → Calls Tryd.prog 13 #[] W fun e w' => e = .returned (.bool true) ∧ Below W.heap.size W w') := ⟨fun W hW => awake_walk W (LaidL.below ⟨hL⟩ hW)⟩
  have e1 : (v == v) = true := by cases v <;> rfl
  have e2 : (v != v) = false := by cases v <;> rfl
  have e3 : (f == f) = true := by cases f <;> rfl
  have e4 : (f != f) = false := by cases f <;> rfl
  have e5 : (n == n) = true := beq_iff_eq.mpr rfl
  have e6 : (b == b) = true := by cases b <;> rfl
  clear hS hD hwd hL hV1 hV2 hD1 hD2 hF1 hF2
  go_enter Tryd.func3, Tryd.ntmps3
  go_wp2_with (first
    | (go_at_call 7; refine (HV1.out _ (Below.refl _ _)).mono ?_; rintro e w1 ⟨rfl, hb1⟩)
    | (go_at_call 8; refine (HD1.out _ hb1).mono ?_; rintro e w2 ⟨rfl, hb2⟩; have HB2 := Aside0.mk (below_step hb1 hb2); clear hb1 hb2)
    | (go_at_call 9; refine (HV2.out _ HB2.out).mono ?_; rintro e w3 ⟨rfl, hb3⟩; have HB3 := Aside0.mk (below_step HB2.out hb3); clear hb3)
    | (go_at_call 10; refine (HD2.out _ HB3.out).mono ?_; rintro e w4 ⟨rfl, hb4⟩; have HB4 := Aside0.mk (below_step HB3.out hb4); clear hb4)
    | (go_at_call 11; refine (HF1.out _ HB4.out).mono ?_; rintro e w5 ⟨rfl, hb5⟩; have HB5 := Aside0.mk (below_step HB4.out hb5); clear hb5)
    | (go_at_call 12; refine (HF2.out _ HB5.out).mono ?_; rintro e w6 ⟨rfl, hb6⟩; have HB6 := Aside0.mk (below_step HB5.out hb6); clear hb6)
    | (go_at_call 13; refine (HAW.out _ HB6.out).mono ?_; rintro e w7 ⟨rfl, hb7⟩; have HB7 := Aside0.mk (below_step HB6.out hb7); clear hb7))
  go_ret
  exact ⟨rfl, HB7.out⟩
end Go.Proofs.YthgfdnffnbclpaaDoor.PAll
namespace Go.Proofs.YthgfdnffnbclpaaDoor.PAll
open Go.RowKit Go.Proofs.YthgfdnffnbclpaaDoorW.PrintWords Go.Proofs.YthgfdnffnbclpaaDoorW.PrintLast Go.Proofs.YthgfdnffnbclpaaDoorW.PrintMore

section
variable {α : Type} [DecidableEq α]
def distQ : List α → List α → Bool
  | _, [] => true
  | p, x :: r => if memP x p = true then false else distQ (p ++ [x]) r
theorem distP_Q : ∀ (l S p : List α), (∀ x, x ∈ S ↔ x ∈ p) → distP S l = distQ p l
  | [], _, _, _ => rfl
  | x :: r, S, p, h => by
    rw [distP, distQ]
    by_cases q : x ∈ S
    · rw [if_pos ((memP_iff x S).2 q), if_pos ((memP_iff x p).2 ((h x).1 q))]
    · rw [if_neg (fun e => q ((memP_iff x S).1 e)), if_neg (fun e => q ((h x).2 ((memP_iff x p).1 e)))]
      exact distP_Q r _ _ (fun y => by rw [List.mem_cons, List.mem_append, List.mem_singleton, h y]; exact Or.comm)
theorem distQ_at (l : List α) (i : Nat) (h : i < l.length) : distQ (l.take i) (l.drop i) = if memP l[i] (l.take i) = true then false else distQ (l.take (i + 1)) (l.drop (i + 1)) := by
  rw [List.drop_eq_getElem_cons h, distQ, List.take_add_one, List.getElem?_eq_getElem h]
  rfl
end
/-! #### references -/
def kindsG (tc oc : List S78) (all key : List Int) : Nat → Nat → Bool
  | 0, _ => true
  | g + 1, i => if rd all i < 0 then false else if rd all i ≥ (tc.length : Int) then false else if (rd_T78 tc (rd all i)).f1 = (rd_T78 oc (rd key i)).f1 then kindsG tc oc all key g (i + 1) else false
def refB (b : List S49) (tc : List S78) (r : S75) : Bool :=
  if r.f1 < 0 then false else if r.f1 ≥ (b.length : Int) then false else if r.f2 < 0 then false else if r.f2 ≥ ((rd_T49 b r.f1).f2.length : Int) then false else
    if (r.f0.length : Int) = ((rd_L6 (rd_T49 b r.f1).f2 r.f2).length : Int) then (kindsG tc (rd_T49 b r.f1).f1 r.f0 (rd_L6 (rd_T49 b r.f1).f2 r.f2) r.f0.length 0 && distP [] r.f0) else false
/-- All keys are in the columns. -/
def KeysIn (t : S49) : Prop := ∀ key ∈ t.f2, ∀ q ∈ key, 0 ≤ q ∧ q < (t.f1.length : Int)
def wfR (r : S75) : Prop := r.f0.length ≤ 9223372036854775807 ∧ r.f0.all (fun s => (Lit.int .i64 s).wf) = true
theorem rd_mem {l : List Int} {i : Nat} (h : i < l.length) : rd l (i : Int) ∈ l := by
  have : rd l (i : Int) = l[i] := by unfold rd; simp [List.getD, h]
  rw [this]; exact List.getElem_mem h
theorem rd_at {l : List Int} {i : Nat} (h : i < l.length) : rd l (i : Int) = l[i] := by unfold rd; simp [List.getD, h]
theorem rrP_is (tc oc : List S78) (all key : List Int) (hl : key.length = all.length) (hk : ∀ q ∈ key, 0 ≤ q ∧ q < (oc.length : Int)) : ∀ (d i : Nat), i + d = all.length → rrP tc oc all key d i = some (kindsG tc oc all key d i && distQ (all.take i) (all.drop i)) := by
  intro d
  induction d with
  | zero => intro i hi; rw [rrP, kindsG, List.drop_eq_nil_of_le (by omega)]; rfl
  | succ d ih =>
    intro i hi
    have hi2 : i < all.length := by omega
    have hq := hk _ (rd_mem (l := key) (i := i) (by omega))
    rw [rrP, kindsG, ih (i + 1) (by omega), distQ_at all i hi2, ← rd_at hi2]
    by_cases q1 : rd all (i : Int) < 0
    · rw [if_pos q1, if_pos q1]; rfl
    rw [if_neg q1, if_neg q1]
    by_cases q2 : rd all (i : Int) ≥ (tc.length : Int)
    · rw [if_pos q2, if_pos q2]; rfl
    rw [if_neg q2, if_neg q2, if_pos hq]
    by_cases q3 : (rd_T78 tc (rd all (i : Int))).f1 = (rd_T78 oc (rd key (i : Int))).f1
    · rw [if_pos q3, if_pos q3]
      by_cases q4 : rd all (i : Int) ∈ all.take i
      · rw [if_pos q4, if_pos ((memP_iff _ _).2 q4), Bool.and_false]
      · rw [if_neg q4, if_neg (fun e => q4 ((memP_iff _ _).1 e))]
    · rw [if_neg q3, if_neg q3]; rfl
theorem rd49_take {s : List S49} {n : Nat} {i : Int} (h0 : 0 ≤ i) (h : i < (n : Int)) : rd_T49 (s.take n) i = rd_T49 s i := by
  unfold rd_T49
  rw [List.getD_eq_getElem?_getD, List.getD_eq_getElem?_getD, List.getElem?_take, if_pos (by omega)]
theorem rd49_mem {s : List S49} {i : Int} (h0 : 0 ≤ i) (h : i < (s.length : Int)) : rd_T49 s i ∈ s := by
  unfold rd_T49
  rw [List.getD_eq_getElem?_getD, List.getElem?_eq_getElem (by omega : i.toNat < s.length)]
  exact List.getElem_mem _
theorem rdL6_mem {s : List (List Int)} {i : Int} (h0 : 0 ≤ i) (h : i < (s.length : Int)) : rd_L6 s i ∈ s := by
  unfold rd_L6
  rw [List.getD_eq_getElem?_getD, List.getElem?_eq_getElem (by omega : i.toNat < s.length)]
  exact List.getElem_mem _
theorem refRef_is (s : List S49) (n : Nat) (hn : n < s.length) (hk : ∀ t ∈ s.take n, KeysIn t) (r : S75) : refRefP s n r.f0 r.f1 r.f2 = some (refB (s.take n) (rd_T49 s n).f1 r) := by
  have hlen : (s.take n).length = n := by rw [List.length_take]; omega
  unfold refRefP refB
  rw [hlen]
  by_cases q1 : r.f1 < 0
  · rw [if_pos q1, if_pos q1]
  rw [if_neg q1, if_neg q1]
  by_cases q2 : r.f1 ≥ (n : Int)
  · rw [if_pos q2, if_pos q2]
  rw [if_neg q2, if_neg q2]
  by_cases q3 : r.f2 < 0
  · rw [if_pos q3, if_pos q3]
  rw [if_neg q3, if_neg q3, rd49_take (by omega) (by omega)]
  by_cases q4 : r.f2 ≥ ((rd_T49 s r.f1).f2.length : Int)
  · rw [if_pos q4, if_pos q4]
  rw [if_neg q4, if_neg q4]
  by_cases q5 : (r.f0.length : Int) = ((rd_L6 (rd_T49 s r.f1).f2 r.f2).length : Int)
  · rw [if_pos q5, if_pos q5]
    have hin : KeysIn (rd_T49 s r.f1) := by
      have := rd49_mem (s := s.take n) (i := r.f1) (by omega) (by rw [hlen]; omega)
      rw [rd49_take (by omega) (by omega)] at this
      exact hk _ this
    have h := rrP_is (rd_T49 s n).f1 (rd_T49 s r.f1).f1 r.f0 (rd_L6 (rd_T49 s r.f1).f2 r.f2) (by omega) (hin _ (rdL6_mem (by omega) (by omega))) r.f0.length 0 (by omega)
    rw [h, List.take_zero, List.drop_zero, ← distP_Q r.f0 [] [] (fun x => Iff.rfl)]
  · rw [if_neg q5, if_neg q5]
theorem validRef_l (b : List S49) (key all : List Int) (hl : key.length = all.length) (nm : ByteArray) (tc : List S78) (ks : List (List Int)) (rs : List S75) (ix cols : List Int) (t q : Int) (h1 : 0 ≤ t) (h2 : t < (b.length : Int)) (hk : ∀ q ∈ key, 0 ≤ q ∧ q < ((rd_T49 b t).f1.length : Int)) (hal : all.length ≤ 9223372036854775807) :
    ∀ (d i k : Nat), i + d = all.length → d < k → scheme_validRef.l0 k b key all (all.length : Int) (i : Int) nm tc ks rs ix cols t q = some (kindsG tc (rd_T49 b t).f1 all key d i) := by
  intro d
  induction d with
  | zero =>
    intro i k hi hk'
    obtain ⟨k, rfl⟩ : ∃ m, k = m + 1 := ⟨k - 1, by omega⟩
    rw [scheme_validRef.l0, if_neg (by omega)]; rfl
  | succ d ih =>
    intro i k hi hk'
    obtain ⟨k, rfl⟩ : ∃ m, k = m + 1 := ⟨k - 1, by omega⟩
    have hq := hk _ (rd_mem (l := key) (i := i) (by omega))
    rw [scheme_validRef.l0, if_pos (by omega), if_pos (by omega), if_pos (by omega), kindsG, w1 i (by omega), ih (i + 1) k (by omega) (by omega)]
    by_cases q1 : rd all (i : Int) < 0
    · rw [if_pos q1, if_pos q1]
    rw [if_neg q1, if_neg q1]
    by_cases q2 : rd all (i : Int) ≥ (tc.length : Int)
    · rw [if_pos q2, if_pos q2]
    rw [if_neg q2, if_neg q2, if_pos (by omega), if_pos (by omega), if_pos h1, if_pos h2, if_pos (by omega), if_pos hq.1, if_pos hq.2]
    by_cases q3 : (rd_T78 tc (rd all (i : Int))).f1 = (rd_T78 (rd_T49 b t).f1 (rd key (i : Int))).f1
    · rw [if_pos q3, if_pos q3]
    · rw [if_neg q3, if_neg q3]
theorem validRef_is (b : List S49) (hk : ∀ t ∈ b, KeysIn t) (nm : ByteArray) (tc : List S78) (ks : List (List Int)) (rs : List S75) (ix : List Int) (r : S75) (hr : wfR r) (k : Nat) (hkk : r.f0.length + 2 ≤ k) :
    scheme_validRef.f k b nm tc ks rs ix r.f0 r.f1 r.f2 = some (refB b tc r) := by
  obtain ⟨k, rfl⟩ : ∃ m, k = m + 1 := ⟨k - 1, by omega⟩
  unfold scheme_validRef.f refB
  by_cases q1 : r.f1 < 0
  · rw [if_pos q1, if_pos q1, scheme_validRef.j0, if_pos rfl]
  rw [if_neg q1, if_neg q1]
  by_cases q2 : r.f1 ≥ (b.length : Int)
  · rw [if_pos q2, if_pos q2, scheme_validRef.j0, if_pos rfl]
  rw [if_neg q2, if_neg q2]
  by_cases q3 : r.f2 < 0
  · rw [if_pos q3, if_pos q3, scheme_validRef.j0, if_pos rfl]
  rw [if_neg q3, if_neg q3, if_pos (by omega), if_pos (by omega)]
  by_cases q4 : r.f2 ≥ ((rd_T49 b r.f1).f2.length : Int)
  · rw [if_pos q4, if_pos q4, scheme_validRef.j0, if_pos rfl]
  rw [if_neg q4, if_neg q4, scheme_distinct_int.f, if_pos hr.2, Option.bind_some, scheme_validRef.j0]
  cases hd : distP [] r.f0 with
  | false =>
    rw [if_pos (by decide), Bool.and_false]
    split <;> rfl
  | true =>
    rw [if_neg (by decide), if_pos (by omega), if_pos (by omega), if_pos (by omega), if_pos (by omega), Bool.and_true]
    by_cases q5 : (r.f0.length : Int) = ((rd_L6 (rd_T49 b r.f1).f2 r.f2).length : Int)
    · rw [if_pos q5.symm, if_pos q5]
      exact validRef_l b _ r.f0 (by omega) nm tc ks rs ix r.f0 r.f1 r.f2 (by omega) (by omega) (hk _ (rd49_mem (by omega) (by omega)) _ (rdL6_mem (by omega) (by omega))) hr.1 r.f0.length 0 k (by omega) (by omega)
    · rw [if_neg (fun e => q5 e.symm), if_neg q5]

/-! #### tables -/
def wfT (t : S49) : Prop := t.f0.size ≤ 9223372036854775807 ∧ (∀ c ∈ t.f1, c.f0.size ≤ 9223372036854775807) ∧ (∀ key ∈ t.f2, key.length ≤ 9223372036854775807) ∧ (∀ r ∈ t.f3, wfR r) ∧ t.f4.length ≤ 9223372036854775807
def tabB (b : List S49) (t : S49) : Bool :=
  if nmB t.f0 = true then if (t.f1.length : Int) > 8 then false else if (t.f2.length : Int) > 4 then false else if (t.f3.length : Int) > 4 then false else
    risB t.f4 (t.f1.length : Int) && (distP [] (t.f1.map (·.f0)) && (t.f1.all colB && (keysB (t.f1.length : Int) t.f2 && t.f3.all (refB b t.f1))))
  else false
theorem mapCol_l (l : List S78) (h8 : l.length ≤ 8) : ∀ (d i k : Nat) (acc : List ByteArray), i + d = l.length → acc.length = i → d < k → scheme_mapColName.l0 k acc l (l.length : Int) (i : Int) = some (acc ++ (l.drop i).map (·.f0)) := by
  intro d
  induction d with
  | zero =>
    intro i k acc hi ha hk
    obtain ⟨k, rfl⟩ : ∃ m, k = m + 1 := ⟨k - 1, by omega⟩
    rw [scheme_mapColName.l0, if_neg (by omega), List.drop_eq_nil_of_le (by omega)]; simp
  | succ d ih =>
    intro i k acc hi ha hk
    obtain ⟨k, rfl⟩ : ∃ m, k = m + 1 := ⟨k - 1, by omega⟩
    rw [scheme_mapColName.l0, if_pos (by omega), if_pos (by omega), if_pos (by omega), scheme_validTable_1.f, Option.bind_some, if_pos (by omega), w1 i (by omega), ih (i + 1) k _ (by omega) (by simp; omega) (by omega)]
    rw [List.drop_eq_getElem_cons (by omega : i < l.length), List.map_cons, rdT78 (by omega)]
    simp
theorem mapTab_l (l : List S49) (h8 : l.length ≤ 16) : ∀ (d i k : Nat) (acc : List ByteArray), i + d = l.length → acc.length = i → d < k → scheme_mapTableName.l0 k acc l (l.length : Int) (i : Int) = some (acc ++ (l.drop i).map (·.f0)) := by
  intro d
  induction d with
  | zero =>
    intro i k acc hi ha hk
    obtain ⟨k, rfl⟩ : ∃ m, k = m + 1 := ⟨k - 1, by omega⟩
    rw [scheme_mapTableName.l0, if_neg (by omega), List.drop_eq_nil_of_le (by omega)]; simp
  | succ d ih =>
    intro i k acc hi ha hk
    obtain ⟨k, rfl⟩ : ∃ m, k = m + 1 := ⟨k - 1, by omega⟩
    rw [scheme_mapTableName.l0, if_pos (by omega), if_pos (by omega), if_pos (by omega), scheme_Valid_1.f, Option.bind_some, if_pos (by omega), w1 i (by omega), ih (i + 1) k _ (by omega) (by simp; omega) (by omega)]
    rw [List.drop_eq_getElem_cons (by omega : i < l.length), List.map_cons, rdT49 (by omega)]
    simp
theorem anyBad_is (b : List S49) (hk : ∀ t ∈ b, KeysIn t) (nm : ByteArray) (tc : List S78) (ks : List (List Int)) (rs : List S75) (ix : List Int) (l : List S75) (hl : l.length ≤ 4) (K : Nat) (hw : ∀ r ∈ l, wfR r ∧ r.f0.length + 2 ≤ K) :
    ∀ k, K + 10 ≤ k → scheme_anyBadRef.f k l b nm tc ks rs ix = some (!(l.all (refB b tc))) := by
  have key : ∀ (d i k : Nat), i + d = l.length → K + d < k → ∃ v : Int, scheme_idxBadRef.l0 k l b (l.length : Int) (i : Int) nm tc ks rs ix = some v ∧ decide (v ≥ 0) = !((l.drop i).all (refB b tc)) := by
    intro d
    induction d with
    | zero =>
      intro i k hi hk'
      obtain ⟨k, rfl⟩ : ∃ m, k = m + 1 := ⟨k - 1, by omega⟩
      exact ⟨-1, by rw [scheme_idxBadRef.l0, if_neg (by omega)], by rw [List.drop_eq_nil_of_le (by omega)]; rfl⟩
    | succ d ih =>
      intro i k hi hk'
      obtain ⟨k, rfl⟩ : ∃ m, k = m + 1 := ⟨k - 1, by omega⟩
      have hr := hw _ (List.getElem_mem (by omega : i < l.length))
      rw [scheme_idxBadRef.l0, if_pos (by omega), if_pos (by omega), if_pos (by omega), scheme_badRef.f, rdT75 (by omega), validRef_is b hk nm tc ks rs ix _ hr.1 k (by omega), Option.bind_some, Option.bind_some, List.drop_eq_getElem_cons (by omega : i < l.length), List.all_cons]
      cases hb : refB b tc l[i] with
      | false => exact ⟨_, by rw [if_pos (by decide)], by simp⟩
      | true =>
        rw [if_neg (by decide), w1 i (by omega), Bool.true_and]
        exact ih (i + 1) k (by omega) (by omega)
  intro k hk'
  obtain ⟨v, h1, h2⟩ := key l.length 0 k (by omega) (by omega)
  unfold scheme_anyBadRef.f scheme_idxBadRef.f
  rw [show ((0 : Nat) : Int) = (0 : Int) from rfl] at h1
  rw [h1, Option.bind_some, h2, List.drop_zero]
theorem keysB_all (n : Int) : ∀ l : List (List Int), keysB n l = l.all (keyB n)
  | [] => rfl
  | k :: r => by rw [keysB, List.all_cons, keysB_all n r]; cases keyB n k <;> rfl
theorem validTable_is (b : List S49) (hk : ∀ t ∈ b, KeysIn t) (t : S49) (hw : wfT t) : Ev (fun k => scheme_validTable.f k b t.f0 t.f1 t.f2 t.f3 t.f4) (tabB b t) := by
  obtain ⟨h0, h1, h2, h3, h4⟩ := hw
  obtain ⟨K, hK⟩ : ∃ K, ∀ r ∈ t.f3, r.f0.length + 2 ≤ K := by
    clear h1 h2 h3 h4
    induction t.f3 with
    | nil => exact ⟨0, fun r h => by cases h⟩
    | cons a l ih =>
      obtain ⟨K, h⟩ := ih
      exact ⟨K + a.f0.length + 2, fun r hr => by rcases List.mem_cons.1 hr with rfl | hr; omega; have := h r hr; omega⟩
  obtain ⟨M, hM⟩ : ∃ M, ∀ r ∈ t.f2, r.length < M := by
    clear h1 h2 h3 h4
    induction t.f2 with
    | nil => exact ⟨0, fun r h => by cases h⟩
    | cons a l ih =>
      obtain ⟨M, h⟩ := ih
      exact ⟨M + a.length + 1, fun r hr => by rcases List.mem_cons.1 hr with rfl | hr; omega; have := h r hr; omega⟩
  refine ⟨K + M + t.f4.length + 200, fun k hk' => ?_⟩
  obtain ⟨k, rfl⟩ : ∃ m, k = m + 1 := ⟨k - 1, by omega⟩
  show scheme_validTable.f (k + 1) b t.f0 t.f1 t.f2 t.f3 t.f4 = some (tabB b t)
  unfold scheme_validTable.f tabB
  rw [name_is _ _ (by omega), show Lx.isNm isKw t.f0.data.toList = nmB t.f0 from rfl, Option.bind_some]
  have hj : ∀ x, scheme_validTable.j0 (k + 1) b true t.f0 t.f1 t.f2 t.f3 t.f4 = some x ↔ x = false := fun x => by rw [scheme_validTable.j0, if_pos rfl]; simp [eq_comm]
  by_cases q0 : nmB t.f0 = true
  case neg => rw [if_neg q0, if_neg q0]; exact (hj _).2 rfl
  rw [if_pos q0, if_pos q0]
  by_cases q1 : (t.f1.length : Int) > 8
  · rw [if_pos q1, if_pos q1]; exact (hj _).2 rfl
  rw [if_neg q1, if_neg q1]
  by_cases q2 : (t.f2.length : Int) > 4
  · rw [if_pos q2, if_pos q2]; exact (hj _).2 rfl
  rw [if_neg q2, if_neg q2]
  by_cases q3 : (t.f3.length : Int) > 4
  · rw [if_pos q3, if_pos q3]; exact (hj _).2 rfl
  rw [if_neg q3, if_neg q3, rising_s t.f4 _ h4 (k + 1) (by omega), Option.bind_some]
  cases hr : risB t.f4 (t.f1.length : Int) with
  | false => rw [Bool.false_and]; exact (hj _).2 rfl
  | true =>
  have hm := mapCol_l t.f1 (by omega) t.f1.length 0 k [] (by omega) rfl (by omega)
  rw [show ((0 : Nat) : Int) = (0 : Int) from rfl, List.nil_append, List.drop_zero] at hm
  have hall : (t.f1.map (·.f0)).all (fun s => decide (s.size ≤ 9223372036854775807)) = true := by
    rw [List.all_eq_true]
    intro s hs
    obtain ⟨c, hc, rfl⟩ := List.mem_map.1 hs
    exact decide_eq_true (h1 c hc)
  rw [scheme_validTable.j0, if_neg (by decide), scheme_mapColName.f, if_pos (by omega), hm, Option.bind_some, scheme_distinct_string.f, if_pos hall, Option.bind_some, Bool.true_and]
  cases hd : distP [] (t.f1.map (·.f0)) with
  | false => rw [if_neg (by decide), Bool.false_and]
  | true =>
  rw [if_pos rfl, Bool.true_and]
  have l1 : ∀ (d i k : Nat), i + d = t.f2.length → K + M + d + 20 < k → scheme_validTable.l1 k b t.f2 (t.f2.length : Int) (i : Int) t.f0 t.f1 t.f2 t.f3 t.f4 = some ((t.f2.drop i).all (keyB (t.f1.length : Int)) && t.f3.all (refB b t.f1)) := by
    intro d
    induction d with
    | zero =>
      intro i k hi hk'
      obtain ⟨k, rfl⟩ : ∃ m, k = m + 1 := ⟨k - 1, by omega⟩
      rw [scheme_validTable.l1, if_neg (by omega), anyBad_is b hk t.f0 t.f1 t.f2 t.f3 t.f4 t.f3 (by omega) K (fun r hr => ⟨h3 r hr, hK r hr⟩) k (by omega), Option.bind_some, List.drop_eq_nil_of_le (by omega)]
      simp
    | succ d ih =>
      intro i k hi hk'
      obtain ⟨k, rfl⟩ : ∃ m, k = m + 1 := ⟨k - 1, by omega⟩
      have hmem := List.getElem_mem (by omega : i < t.f2.length)
      rw [scheme_validTable.l1, if_pos (by omega), if_pos (by omega), if_pos (by omega), rdL6 (by omega), List.drop_eq_getElem_cons (by omega : i < t.f2.length), List.all_cons, keyB]
      by_cases q : (t.f2[i].length : Int) = 0
      · rw [if_pos q, if_pos q, Bool.false_and, Bool.false_and]
      · rw [if_neg q, if_neg q, rising_s _ _ (h2 _ hmem) k (by have := hM _ hmem; omega), Option.bind_some, w1 i (by omega), ih (i + 1) k (by omega) (by omega)]
        cases risB t.f2[i] (t.f1.length : Int) <;> simp
  have l0 : ∀ (d i k : Nat), i + d = t.f1.length → K + M + d + 70 < k → scheme_validTable.l0 k b t.f1 (t.f1.length : Int) (i : Int) t.f0 t.f1 t.f2 t.f3 t.f4 = some ((t.f1.drop i).all colB && (t.f2.all (keyB (t.f1.length : Int)) && t.f3.all (refB b t.f1))) := by
    intro d
    induction d with
    | zero =>
      intro i k hi hk'
      obtain ⟨k, rfl⟩ : ∃ m, k = m + 1 := ⟨k - 1, by omega⟩
      have := l1 t.f2.length 0 k (by omega) (by omega)
      rw [show ((0 : Nat) : Int) = (0 : Int) from rfl, List.drop_zero] at this
      rw [scheme_validTable.l0, if_neg (by omega), this, List.drop_eq_nil_of_le (by omega)]
      simp
    | succ d ih =>
      intro i k hi hk'
      obtain ⟨k, rfl⟩ : ∃ m, k = m + 1 := ⟨k - 1, by omega⟩
      rw [scheme_validTable.l0, if_pos (by omega), if_pos (by omega), if_pos (by omega), col_s _ k (by omega), Option.bind_some, rdT78 (by omega), List.drop_eq_getElem_cons (by omega : i < t.f1.length), List.all_cons, w1 i (by omega), ih (i + 1) k (by omega) (by omega)]
      cases colB t.f1[i] <;> simp
  have := l0 t.f1.length 0 k (by omega) (by omega)
  rw [show ((0 : Nat) : Int) = (0 : Int) from rfl, List.drop_zero] at this
  rw [this, keysB_all]

/-! #### schemes -/
theorem ris_facts (l : List Int) (n : Int) : ∀ (d i : Nat), i + d = l.length → risG l n d i = true → ∀ j, i ≤ j → j < l.length → 0 ≤ rd l (j : Int) ∧ rd l (j : Int) < n ∧ (0 < j → rd l ((j - 1 : Nat) : Int) < rd l (j : Int)) := by
  intro d
  induction d with
  | zero => intro i hi _ j h1 h2; omega
  | succ d ih =>
    intro i hi h j h1 h2
    rw [risG] at h
    split at h
    · cases h
    split at h
    · cases h
    split at h
    · cases h
    rename_i q1 q2 q3
    by_cases e : j = i
    · subst e
      exact ⟨by omega, by omega, fun hp => by
        by_cases hh : rd l (j : Int) ≤ rd l ((j - 1 : Nat) : Int)
        · exact absurd ⟨hp, hh⟩ q3
        · omega⟩
    · exact ih (i + 1) (by omega) h j (by omega) h2
theorem risB_in {l : List Int} {n : Int} (h : risB l n = true) : ∀ q ∈ l, 0 ≤ q ∧ q < n := by
  intro q hq
  obtain ⟨j, hj, rfl⟩ := List.getElem_of_mem hq
  have := ris_facts l n l.length 0 (by omega) h j (by omega) hj
  rw [rd_at hj] at this
  exact ⟨this.1, this.2.1⟩
theorem risB_len {l : List Int} {n : Int} (h : risB l n = true) (hn : 0 ≤ n) : (l.length : Int) ≤ n := by
  have key : ∀ j, j < l.length → (j : Int) ≤ rd l (j : Int) := by
    intro j
    induction j with
    | zero => intro hj; have := (ris_facts l n l.length 0 (by omega) h 0 (by omega) hj).1; omega
    | succ j ih =>
      intro hj
      have h1 := ih (by omega)
      have h2 := (ris_facts l n l.length 0 (by omega) h (j + 1) (by omega) hj).2.2 (by omega)
      rw [show j + 1 - 1 = j by omega] at h2
      omega
  by_cases q : l.length = 0
  · omega
  · have h1 := key (l.length - 1) (by omega)
    have h2 := (ris_facts l n l.length 0 (by omega) h (l.length - 1) (by omega) (by omega)).2.1
    omega
theorem tabB_facts {b : List S49} {t : S49} (h : tabB b t = true) : t.f1.length ≤ 8 ∧ (∀ key ∈ t.f2, risB key (t.f1.length : Int) = true) ∧ (∀ r ∈ t.f3, refB b t.f1 r = true) := by
  unfold tabB at h
  split at h
  · split at h
    · cases h
    split at h
    · cases h
    split at h
    · cases h
    simp only [Bool.and_eq_true] at h
    obtain ⟨_, _, _, h4, h5⟩ := h
    refine ⟨by omega, fun key hk => ?_, fun r hr => List.all_eq_true.1 h5 r hr⟩
    rw [keysB_all] at h4
    have := List.all_eq_true.1 h4 key hk
    unfold keyB at this
    split at this
    · cases this
    · exact this
  · cases h
theorem tabB_keys {b : List S49} {t : S49} (h : tabB b t = true) : KeysIn t := fun key hk => risB_in ((tabB_facts h).2.1 key hk)
def tabsB (s : List S49) : Nat → Nat → Bool
  | 0, _ => true
  | g + 1, i => tabB (s.take i) (rd_T49 s (i : Int)) && tabsB s g (i + 1)
def validB (s : List S49) : Bool := decide (s.length ≤ 16) && (distP [] (s.map (·.f0)) && tabsB s s.length 0)
theorem take_keys {s : List S49} {i : Nat} (h : i < s.length) (hk : ∀ t ∈ s.take i, KeysIn t) (ht : KeysIn (rd_T49 s (i : Int))) : ∀ t ∈ s.take (i + 1), KeysIn t := by
  intro t hm
  rw [List.take_add_one, List.getElem?_eq_getElem h] at hm
  rcases List.mem_append.1 hm with hm | hm
  · exact hk t hm
  · have : t = s[i] := by simpa using hm
    rw [this, ← rdT49 h]; exact ht
theorem valid_l (s : List S49) (h16 : s.length ≤ 16) (hw : ∀ t ∈ s, wfT t) : ∀ (d i : Nat), i + d = s.length → (∀ t ∈ s.take i, KeysIn t) → Ev (fun k => scheme_Valid.l0 k s s (s.length : Int) (i : Int)) (tabsB s d i) := by
  intro d
  induction d with
  | zero =>
    intro i hi _
    refine ⟨1, fun k hk => ?_⟩
    obtain ⟨k, rfl⟩ : ∃ m, k = m + 1 := ⟨k - 1, by omega⟩
    show scheme_Valid.l0 (k + 1) s s (s.length : Int) (i : Int) = some (tabsB s 0 i)
    rw [scheme_Valid.l0, if_neg (by omega)]; rfl
  | succ d ih =>
    intro i hi hk
    have hlt : i < s.length := by omega
    obtain ⟨K1, h1⟩ := validTable_is (s.take i) hk (rd_T49 s (i : Int)) (by rw [rdT49 hlt]; exact hw _ (List.getElem_mem hlt))
    simp only at h1
    have step : ∀ k, scheme_Valid.l0 (k + 1) s s (s.length : Int) (i : Int) = (scheme_validTable.f k (s.take i) (rd_T49 s (i : Int)).f0 (rd_T49 s (i : Int)).f1 (rd_T49 s (i : Int)).f2 (rd_T49 s (i : Int)).f3 (rd_T49 s (i : Int)).f4).bind fun t => if t = true then scheme_Valid.l0 k s s (s.length : Int) ((i + 1 : Nat) : Int) else some false := fun k => by
      rw [scheme_Valid.l0, if_pos (by omega), if_pos (by omega), if_pos (by omega), if_pos (by omega), w1 i (by omega), Int.toNat_natCast]
    cases hb : tabB (s.take i) (rd_T49 s (i : Int)) with
    | false =>
      refine ⟨K1 + 1, fun k hk' => ?_⟩
      obtain ⟨k, rfl⟩ : ∃ m, k = m + 1 := ⟨k - 1, by omega⟩
      show scheme_Valid.l0 (k + 1) s s (s.length : Int) (i : Int) = some (tabsB s (d + 1) i)
      rw [step, h1 k (by omega), Option.bind_some, hb, if_neg (by decide), tabsB, hb]; rfl
    | true =>
      obtain ⟨K2, h2⟩ := ih (i + 1) (by omega) (take_keys hlt hk (tabB_keys hb))
      refine ⟨K1 + K2 + 1, fun k hk' => ?_⟩
      obtain ⟨k, rfl⟩ : ∃ m, k = m + 1 := ⟨k - 1, by omega⟩
      show scheme_Valid.l0 (k + 1) s s (s.length : Int) (i : Int) = some (tabsB s (d + 1) i)
      rw [step, h1 k (by omega), Option.bind_some, hb, if_pos rfl, tabsB, hb, Bool.true_and]
      exact h2 k (by omega)
theorem valid_is (s : List S49) (hw : ∀ t ∈ s, wfT t) : Ev (fun k => scheme_Valid.f k s) (validB s) := by
  unfold validB
  by_cases q : (s.length : Int) > 16
  · refine ⟨1, fun k hk => ?_⟩
    obtain ⟨k, rfl⟩ : ∃ m, k = m + 1 := ⟨k - 1, by omega⟩
    show scheme_Valid.f (k + 1) s = _
    unfold scheme_Valid.f
    rw [if_pos q, scheme_Valid.j0, if_pos rfl, decide_eq_false (by omega)]; rfl
  · obtain ⟨K, h⟩ := valid_l s (by omega) hw s.length 0 (by omega) (fun t h => by simp at h)
    refine ⟨K + s.length + 2, fun k hk => ?_⟩
    obtain ⟨k, rfl⟩ : ∃ m, k = m + 1 := ⟨k - 1, by omega⟩
    show scheme_Valid.f (k + 1) s = _
    have hm := mapTab_l s (by omega) s.length 0 (k + 1) [] (by omega) rfl (by omega)
    rw [show ((0 : Nat) : Int) = (0 : Int) from rfl, List.nil_append, List.drop_zero] at hm
    have hall : (s.map (·.f0)).all (fun s => decide (s.size ≤ 9223372036854775807)) = true := by
      rw [List.all_eq_true]
      intro x hs
      obtain ⟨c, hc, rfl⟩ := List.mem_map.1 hs
      exact decide_eq_true (hw c hc).1
    unfold scheme_Valid.f
    rw [if_neg q, scheme_mapTableName.f, if_pos (by omega), hm, Option.bind_some, scheme_distinct_string.f, if_pos hall, Option.bind_some, scheme_Valid.j0, decide_eq_true (by omega), Bool.true_and]
    cases hd : distP [] (s.map (·.f0)) with
    | false => rw [if_pos (by decide)]; rfl
    | true =>
      rw [if_neg (by decide), Bool.true_and]
      exact h k (by omega)

theorem colsG_is (l : List S78) : ∀ (d i : Nat), i + d = l.length → colsG l d i = ((l.drop i).all colB && distQ ((l.map (·.f0)).take i) ((l.map (·.f0)).drop i)) := by
  intro d
  induction d with
  | zero => intro i hi; rw [colsG, List.drop_eq_nil_of_le (by omega), List.drop_eq_nil_of_le (by rw [List.length_map]; omega)]; rfl
  | succ d ih =>
    intro i hi
    have h1 : i < l.length := by omega
    have h2 : i < (l.map (·.f0)).length := by rw [List.length_map]; omega
    rw [colsG, ih (i + 1) (by omega), distQ_at _ i h2, List.drop_eq_getElem_cons h1, List.all_cons, rdT78 h1, List.getElem_map]
    cases colB l[i] <;> cases memP l[i].f0 ((l.map (·.f0)).take i) <;> simp
theorem rrefs_is (s : List S49) (n : Nat) (hn : n < s.length) (hk : ∀ t ∈ s.take n, KeysIn t) (e : Bool) : ∀ l : List S75, rrefsP s n e l = some (if l.all (refB (s.take n) (rd_T49 s n).f1) = true then e else false)
  | [] => rfl
  | r :: l => by
    rw [rrefsP, refRef_is s n hn hk r, Option.bind_some, rrefs_is s n hn hk e l, List.all_cons]
    cases refB (s.take n) (rd_T49 s n).f1 r <;> simp
theorem refTable_is (s : List S49) (n : Nat) (hn : n < s.length) (hk : ∀ t ∈ s.take n, KeysIn t) :
    refTableP s n = some (tabB (s.take n) (rd_T49 s n) && !(memP (rd_T49 s n).f0 ((s.map (·.f0)).take n))) := by
  unfold refTableP tabB colsB
  rw [rrefs_is s n hn hk, colsG_is _ _ 0 (by omega), List.drop_zero, List.drop_zero, List.take_zero, ← distP_Q _ [] [] (fun x => Iff.rfl)]
  generalize rd_T49 s (n : Int) = t
  cases nmB t.f0
  · rfl
  simp only [if_true]
  by_cases q1 : (t.f1.length : Int) > 8
  · rw [if_pos q1, decide_eq_false (by omega)]; rfl
  rw [if_neg q1, decide_eq_true (by omega)]
  by_cases q2 : (t.f2.length : Int) > 4
  · rw [if_pos q2, if_pos q2]; split <;> rfl
  rw [if_neg q2, if_neg q2]
  by_cases q3 : (t.f3.length : Int) > 4
  · rw [if_pos q3, if_pos q3]; split <;> rfl
  rw [if_neg q3, if_neg q3]
  cases t.f1.all colB <;> cases distP [] (t.f1.map (·.f0)) <;> cases memP t.f0 ((s.map (·.f0)).take n) <;> cases keysB (t.f1.length : Int) t.f2 <;> cases t.f3.all (refB (s.take n) t.f1) <;> cases risB t.f4 (t.f1.length : Int) <;> rfl
theorem tabs_is (s : List S49) : ∀ (d i : Nat), i + d = s.length → (∀ t ∈ s.take i, KeysIn t) → tabsP s d i = some (tabsB s d i && distQ ((s.map (·.f0)).take i) ((s.map (·.f0)).drop i)) := by
  intro d
  induction d with
  | zero => intro i hi _; rw [tabsP, tabsB, List.drop_eq_nil_of_le (by rw [List.length_map]; omega)]; rfl
  | succ d ih =>
    intro i hi hk
    have hlt : i < s.length := by omega
    have h2 : i < (s.map (·.f0)).length := by rw [List.length_map]; omega
    rw [tabsP, refTable_is s i hlt hk, Option.bind_some, tabsB, distQ_at _ i h2, List.getElem_map, ← rdT49 hlt]
    cases hb : tabB (s.take i) (rd_T49 s (i : Int)) with
    | false => rw [Bool.false_and, if_neg (by decide)]; rfl
    | true =>
      cases hm : memP (rd_T49 s (i : Int)).f0 ((s.map (·.f0)).take i) with
      | true => rw [if_neg (by decide), if_pos rfl, Bool.and_false]
      | false => rw [if_pos (by decide), if_neg (by decide), ih (i + 1) (by omega) (take_keys hlt hk (tabB_keys hb)), Bool.true_and]
theorem refValid_is (s : List S49) : refValidP s = some (validB s) := by
  unfold refValidP validB
  by_cases q : (s.length : Int) > 16
  · rw [if_pos q, decide_eq_false (by omega)]; rfl
  · rw [if_neg q, tabs_is s s.length 0 (by omega) (fun t h => by simp at h), decide_eq_true (by omega), List.take_zero, List.drop_zero, ← distP_Q _ [] [] (fun x => Iff.rfl), Bool.true_and, Bool.and_comm]
end Go.Proofs.YthgfdnffnbclpaaDoor.PAll
namespace Go.Proofs.YthgfdnffnbclpaaDoor.PAll
open Go.RowKit Go.Proofs.YthgfdnffnbclpaaDoorW.PrintWords Go.Proofs.YthgfdnffnbclpaaDoorW.PrintLast Go.Proofs.YthgfdnffnbclpaaDoorW.PrintMore

def inR (row : List S64) (cols : List Int) : Prop := ∀ c ∈ cols, 0 ≤ c ∧ c < (row.length : Int)
def vals (row : List S64) (cols : List Int) : List S64 := cols.map (rd_T64 row)
def fullB (row : List S64) (cols : List Int) : Bool := cols.all fun c => decide ((rd_T64 row c).f0 ≠ 0)
theorem fullB_vals (row : List S64) (cols : List Int) : fullB row cols = true ↔ ∀ x ∈ vals row cols, x.f0 ≠ 0 := by
  unfold fullB vals
  rw [List.all_eq_true]
  constructor
  · intro h x hx
    obtain ⟨c, hc, rfl⟩ := List.mem_map.1 hx
    exact of_decide_eq_true (h c hc)
  · intro h c hc
    exact decide_eq_true (h _ (List.mem_map_of_mem hc))
theorem fullP_is (row : List S64) : ∀ cols : List Int, inR row cols → fullP row cols = some (fullB row cols)
  | [], _ => rfl
  | c :: r, h => by
    rw [fullP, if_pos (h c (by simp)), fullP_is row r (fun x hx => h x (by simp [hx]))]
    unfold fullB
    rw [List.all_cons]
    by_cases q : (rd_T64 row c).f0 = 0
    · rw [if_pos q, decide_eq_false (fun e => e q)]; rfl
    · rw [if_neg q, decide_eq_true q]; rfl
theorem alikeP_is (a b : List S64) : ∀ (cols key : List Int), cols.length = key.length → inR a cols → inR b key → alikeP a b cols key = some (decide (vals a cols = vals b key))
  | [], [], _, _, _ => rfl
  | [], _ :: _, h, _, _ => by simp at h
  | _ :: _, [], h, _, _ => by simp at h
  | c :: cs, q :: qs, h, h1, h2 => by
    have g1 := h1 c (by simp)
    have g2 := h2 q (by simp)
    rw [alikeP, if_pos ⟨g1.1, g1.2, g2.1, g2.2⟩, alikeP_is a b cs qs (by simpa using h) (fun x hx => h1 x (by simp [hx])) (fun x hx => h2 x (by simp [hx]))]
    unfold vals
    rw [List.map_cons, List.map_cons]
    by_cases e : rd_T64 a c = rd_T64 b q
    · rw [if_pos e, e]; simp
    · rw [if_neg e, decide_eq_false (fun hh => e (List.cons.inj hh).1)]
theorem pick_is (row : List S64) : ∀ (cols : List Int) (i : Nat) (t : List S64), inR row cols → i + cols.length ≤ 8 → t.length = 8 → ∃ u, pickP row i cols t = some (u, fullB row cols) ∧ u.length = 8 ∧ u.take i = t.take i ∧
    (fullB row cols = true → u = t.take i ++ (vals row cols ++ t.drop (i + cols.length))) ∧ (fullB row cols = false → ∃ j x, j < cols.length ∧ u[i + j]? = some x ∧ x.f0 = 0)
  | [], i, t, _, _, ht => ⟨t, rfl, ht, rfl, fun _ => by simp [vals], fun h => by simp [fullB] at h⟩
  | c :: r, i, t, h, h8, ht => by
    have g := h c (by simp)
    rw [List.length_cons] at h8
    rw [pickP, if_pos ⟨by omega, g.1, g.2⟩]
    by_cases q : (rd_T64 row c).f0 = 0
    · have hf : fullB row (c :: r) = false := by unfold fullB; rw [List.all_cons, decide_eq_false (fun e => e q)]; rfl
      rw [if_pos q, hf]
      refine ⟨_, rfl, by simpa using ht, by rw [List.take_set_of_le (Nat.le_refl i)], (fun e => by cases e), fun _ => ⟨0, rd_T64 row c, by simp, by rw [Nat.add_zero, List.getElem?_set_self (by omega)], q⟩⟩
    · have hf : fullB row (c :: r) = fullB row r := by unfold fullB; rw [List.all_cons, decide_eq_true q]; rfl
      obtain ⟨u, h1, h2, h3, h4, h5⟩ := pick_is row r (i + 1) (t.set i (rd_T64 row c)) (fun x hx => h x (by simp [hx])) (by omega) (by simpa using ht)
      have ht1 : (t.set i (rd_T64 row c)).take (i + 1) = t.take i ++ [rd_T64 row c] := by
        rw [List.take_add_one, List.getElem?_set_self (by omega), List.take_set_of_le (Nat.le_refl i)]; rfl
      rw [if_neg q, hf]
      refine ⟨u, h1, h2, ?_, fun e => ?_, fun e => ?_⟩
      · have := congrArg (List.take i) h3
        rw [ht1, List.take_take, List.take_append_of_le_length (by rw [List.length_take]; omega), List.take_take] at this
        simpa using this
      · rw [h4 e, ht1, List.drop_set_of_lt (by omega), List.length_cons, List.append_assoc]
        unfold vals
        rw [List.map_cons, show i + 1 + r.length = i + (r.length + 1) by omega]
        rfl
      · obtain ⟨j, x, hj, hx, h0⟩ := h5 e
        exact ⟨j + 1, x, by rw [List.length_cons]; omega, by rw [← hx]; congr 1; omega, h0⟩
def pad (n : Nat) : List S64 := tup0.drop n
theorem pick0 (row : List S64) (cols : List Int) (h : inR row cols) (h8 : cols.length ≤ 8) : ∃ u, pickP row 0 cols tup0 = some (u, fullB row cols) ∧ (fullB row cols = true → u = vals row cols ++ pad cols.length) ∧
    (fullB row cols = false → ∀ v : List S64, v.length = cols.length → (∀ x ∈ v, x.f0 ≠ 0) → v ++ pad cols.length ≠ u) := by
  obtain ⟨u, h1, h2, _, h4, h5⟩ := pick_is row cols 0 tup0 h (by omega) rfl
  refine ⟨u, h1, fun e => by simpa [pad] using h4 e, fun e v hv hx hu => ?_⟩
  obtain ⟨j, x, hj, hxj, h0⟩ := h5 e
  rw [Nat.zero_add, ← hu, List.getElem?_append_left (by omega)] at hxj
  exact hx x (List.mem_of_getElem? hxj) h0
theorem vals_len (row : List S64) (cols : List Int) : (vals row cols).length = cols.length := by unfold vals; rw [List.length_map]

/-! #### keys -/
def KB (key : List Int) : List (List S64) → List (List S64) → Bool
  | _, [] => true
  | p, row :: r => if (fullB row key && p.any fun y => decide (vals row key = vals y key)) = true then false else KB key (p ++ [row]) r
theorem keyRows_is (key : List Int) (h8 : key.length ≤ 8) : ∀ (rows S p : List (List S64)), (∀ row ∈ rows, inR row key) →
    (∀ v : List S64, v.length = key.length → (∀ x ∈ v, x.f0 ≠ 0) → (v ++ pad key.length ∈ S ↔ ∃ y ∈ p, v = vals y key)) → keyRowsP key rows S = some (KB key p rows)
  | [], _, _, _, _ => rfl
  | row :: r, S, p, h, hS => by
    obtain ⟨u, h1, h2, h3⟩ := pick0 row key (h row (by simp)) h8
    rw [keyRowsP, h1, Option.bind_some, KB]
    cases hf : fullB row key with
    | true =>
      have hfull := (fullB_vals row key).1 hf
      have hu := h2 hf
      have hm : memP u S = p.any fun y => decide (vals row key = vals y key) := by
        rw [Bool.eq_iff_iff, memP_iff, hu, hS _ (vals_len row key) hfull, List.any_eq_true]
        constructor
        · rintro ⟨y, hy, e⟩; exact ⟨y, hy, decide_eq_true e⟩
        · rintro ⟨y, hy, e⟩; exact ⟨y, hy, of_decide_eq_true e⟩
      simp only [Bool.true_and, if_true]
      rw [hm]
      cases hq : p.any fun y => decide (vals row key = vals y key) with
      | true => rfl
      | false =>
        rw [if_neg (by decide), if_neg (by decide)]
        refine keyRows_is key h8 r _ _ (fun x hx => h x (by simp [hx])) (fun v hv hx => ?_)
        rw [List.mem_cons, hS v hv hx, hu]
        constructor
        · rintro (e | ⟨y, hy, e⟩)
          · exact ⟨row, by simp, (List.append_inj e (by rw [hv, vals_len])).1⟩
          · exact ⟨y, by simp [hy], e⟩
        · rintro ⟨y, hy, e⟩
          rcases List.mem_append.1 hy with hy | hy
          · exact .inr ⟨y, hy, e⟩
          · left; rw [e, List.mem_singleton.1 hy]
    | false =>
      simp only [Bool.false_and, Bool.false_eq_true, if_false]
      refine keyRows_is key h8 r _ _ (fun x hx => h x (by simp [hx])) (fun v hv hx => ?_)
      rw [hS v hv hx]
      constructor
      · rintro ⟨y, hy, e⟩; exact ⟨y, by simp [hy], e⟩
      · rintro ⟨y, hy, e⟩
        rcases List.mem_append.1 hy with hy | hy
        · exact ⟨y, hy, e⟩
        · rw [List.mem_singleton.1 hy] at e
          have : fullB row key = true := (fullB_vals row key).2 (by rw [← e]; exact hx)
          rw [hf] at this; cases this
theorem khIn_is (x : List S64) (key : List Int) (hx : inR x key) : ∀ l : List (List S64), (∀ row ∈ l, inR row key) → khIn x key l = some (l.any fun y => decide (vals x key = vals y key))
  | [], _ => rfl
  | y :: r, h => by
    rw [khIn, alikeP_is x y key key rfl hx (h y (by simp)), Option.bind_some, khIn_is x key hx r (fun z hz => h z (by simp [hz])), List.any_cons]
    cases decide (vals x key = vals y key) <;> rfl
theorem kh_is (rows : List (List S64)) (key : List Int) (h : ∀ row ∈ rows, inR row key) : ∀ (d i : Nat), i + d = rows.length → khP rows key d i = some (KB key (rows.take i) (rows.drop i)) := by
  intro d
  induction d with
  | zero => intro i hi; rw [khP, List.drop_eq_nil_of_le (by omega)]; rfl
  | succ d ih =>
    intro i hi
    have hlt : i < rows.length := by omega
    have hrow := h _ (List.getElem_mem hlt)
    rw [khP, rdL12 hlt, fullP_is _ _ hrow, Option.bind_some, khIn_is _ _ hrow _ (fun z hz => h z (List.mem_of_mem_take hz)), Option.bind_some, ih (i + 1) (by omega), List.drop_eq_getElem_cons hlt, KB, List.take_add_one, List.getElem?_eq_getElem hlt]
    cases fullB rows[i] key <;> cases ((rows.take i).any fun y => decide (vals rows[i] key = vals y key)) <;> rfl
theorem keys_is (rows : List (List S64)) : ∀ keys : List (List Int), (∀ key ∈ keys, key.length ≤ 8 ∧ ∀ row ∈ rows, inR row key) → keysP rows keys = some (keys.all fun k => KB k [] rows) ∧ refKeysP rows keys = some (keys.all fun k => KB k [] rows)
  | [], _ => ⟨rfl, rfl⟩
  | k :: r, h => by
    obtain ⟨h1, h2⟩ := keys_is rows r (fun x hx => h x (by simp [hx]))
    obtain ⟨g1, g2⟩ := h k (by simp)
    rw [keysP, refKeysP, keyRows_is k g1 rows [] [] g2 (fun v _ _ => by simp), kh_is rows k g2 rows.length 0 (by omega), Option.bind_some, Option.bind_some, h1, h2, List.all_cons, List.take_zero, List.drop_zero]
    cases KB k [] rows <;> exact ⟨rfl, rfl⟩

/-! #### references -/
def RB (cols key : List Int) (others rows : List (List S64)) : Bool := rows.all fun row => !(fullB row cols) || others.any fun y => decide (vals row cols = vals y key)
theorem known_is (key : List Int) (h8 : key.length ≤ 8) : ∀ (others S : List (List S64)), (∀ row ∈ others, inR row key) → ∃ S', knownP key others S = some S' ∧
    ∀ v : List S64, v.length = key.length → (∀ x ∈ v, x.f0 ≠ 0) → (v ++ pad key.length ∈ S' ↔ v ++ pad key.length ∈ S ∨ ∃ y ∈ others, v = vals y key)
  | [], S, _ => ⟨S, rfl, fun v _ _ => by simp⟩
  | row :: r, S, h => by
    obtain ⟨u, h1, h2, h3⟩ := pick0 row key (h row (by simp)) h8
    obtain ⟨S', e, hS⟩ := known_is key h8 r (u :: S) (fun x hx => h x (by simp [hx]))
    refine ⟨S', by rw [knownP, h1, Option.bind_some]; exact e, fun v hv hx => ?_⟩
    rw [hS v hv hx, List.mem_cons]
    cases hf : fullB row key with
    | true =>
      rw [h2 hf]
      constructor
      · rintro ((e | e) | ⟨y, hy, e⟩)
        · exact .inr ⟨row, by simp, (List.append_inj e (by rw [hv, vals_len])).1⟩
        · exact .inl e
        · exact .inr ⟨y, by simp [hy], e⟩
      · rintro (e | ⟨y, hy, e⟩)
        · exact .inl (.inr e)
        · rcases List.mem_cons.1 hy with rfl | hy
          · exact .inl (.inl (by rw [e]))
          · exact .inr ⟨y, hy, e⟩
    | false =>
      have := h3 hf v hv hx
      constructor
      · rintro ((e | e) | ⟨y, hy, e⟩)
        · exact absurd e this
        · exact .inl e
        · exact .inr ⟨y, by simp [hy], e⟩
      · rintro (e | ⟨y, hy, e⟩)
        · exact .inl (.inr e)
        · rcases List.mem_cons.1 hy with rfl | hy
          · have hc : fullB y key = true := (fullB_vals y key).2 (by rw [← e]; exact hx)
            rw [hf] at hc; cases hc
          · exact .inr ⟨y, hy, e⟩
theorem allKnown_is (cols key : List Int) (hl : cols.length = key.length) (h8 : key.length ≤ 8) (others S : List (List S64))
    (hS : ∀ v : List S64, v.length = key.length → (∀ x ∈ v, x.f0 ≠ 0) → (v ++ pad key.length ∈ S ↔ ∃ y ∈ others, v = vals y key)) : ∀ rows : List (List S64), (∀ row ∈ rows, inR row cols) → allKnownP cols S rows = some (RB cols key others rows)
  | [], _ => rfl
  | row :: r, h => by
    obtain ⟨u, h1, h2, h3⟩ := pick0 row cols (h row (by simp)) (by omega)
    have ih := allKnown_is cols key hl h8 others S hS r (fun x hx => h x (by simp [hx]))
    unfold RB at ih ⊢
    rw [allKnownP, h1, Option.bind_some, ih, List.all_cons]
    cases hf : fullB row cols with
    | false => simp
    | true =>
      have hfull := (fullB_vals row cols).1 hf
      have hm : memP u S = others.any fun y => decide (vals row cols = vals y key) := by
        rw [Bool.eq_iff_iff, memP_iff, h2 hf, hl, hS _ (by rw [vals_len, hl]) hfull, List.any_eq_true]
        constructor
        · rintro ⟨y, hy, e⟩; exact ⟨y, hy, decide_eq_true e⟩
        · rintro ⟨y, hy, e⟩; exact ⟨y, hy, of_decide_eq_true e⟩
      simp only [Bool.true_and, Bool.not_true, Bool.false_or]
      rw [hm]
      cases others.any fun y => decide (vals row cols = vals y key) <;> simp
theorem rhIn_true (row : List S64) (cols key : List Int) : ∀ l : List (List S64), rhIn row cols key true l = some true
  | [] => rfl
  | _ :: _ => rfl
theorem rhIn_is (row : List S64) (cols key : List Int) (hl : cols.length = key.length) (hr : inR row cols) : ∀ l : List (List S64), (∀ y ∈ l, inR y key) → rhIn row cols key false l = some (l.any fun y => decide (vals row cols = vals y key))
  | [], _ => rfl
  | y :: r, h => by
    rw [rhIn, alikeP_is row y cols key hl hr (h y (by simp)), Option.bind_some, List.any_cons]
    cases decide (vals row cols = vals y key) with
    | true => rw [rhIn_true]; rfl
    | false => rw [rhIn_is row cols key hl hr r (fun z hz => h z (by simp [hz])), Bool.false_or]
theorem rh_is (cols key : List Int) (hl : cols.length = key.length) (others : List (List S64)) (ho : ∀ y ∈ others, inR y key) : ∀ rows : List (List S64), (∀ row ∈ rows, inR row cols) → rhP cols others key rows = some (RB cols key others rows)
  | [], _ => rfl
  | row :: r, h => by
    have ih := rh_is cols key hl others ho r (fun x hx => h x (by simp [hx]))
    unfold RB at ih ⊢
    rw [rhP, fullP_is row cols (h row (by simp)), Option.bind_some, ih, List.all_cons]
    cases fullB row cols with
    | false => rw [Bool.not_false, rhIn_true, Option.bind_some]; rfl
    | true =>
      rw [Bool.not_true, rhIn_is row cols key hl (h row (by simp)) others ho, Option.bind_some, Bool.false_or]
      cases others.any fun y => decide (vals row cols = vals y key) <;> rfl
def refHB (s : List S49) (d : List (List (List S64))) (n : Nat) (r : S75) : Bool := RB r.f0 (rd_L6 (rd_T49 s r.f1).f2 r.f2) (rd_L13 d r.f1) (rd_L13 d n)
/-- A reference that can be followed. -/
def RefOk (s : List S49) (d : List (List (List S64))) (n : Nat) (r : S75) : Prop :=
  0 ≤ r.f1 ∧ r.f1 < (s.length : Int) ∧ r.f1 < (d.length : Int) ∧ 0 ≤ r.f2 ∧ r.f2 < ((rd_T49 s r.f1).f2.length : Int) ∧ r.f0.length = (rd_L6 (rd_T49 s r.f1).f2 r.f2).length ∧ (rd_L6 (rd_T49 s r.f1).f2 r.f2).length ≤ 8 ∧
    (∀ row ∈ rd_L13 d n, inR row r.f0) ∧ (∀ y ∈ rd_L13 d r.f1, inR y (rd_L6 (rd_T49 s r.f1).f2 r.f2))
theorem refs_is (s : List S49) (d : List (List (List S64))) (n : Nat) : ∀ l : List S75, (∀ r ∈ l, RefOk s d n r) → refsP s d n l = some (l.all (refHB s d n)) ∧ refRefsP s d n l = some (l.all (refHB s d n))
  | [], _ => ⟨rfl, rfl⟩
  | r :: l, h => by
    obtain ⟨h1, h2⟩ := refs_is s d n l (fun x hx => h x (by simp [hx]))
    obtain ⟨q1, q2, q3, q4, q5, q6, q7, q8, q9⟩ := h r (by simp)
    obtain ⟨S', e, hS⟩ := known_is _ q7 (rd_L13 d r.f1) [] q9
    rw [refsP, refRefsP, refP, if_pos ⟨q1, q2, q3, q4, q5⟩, if_pos ⟨q1, q2, q3, q4, q5⟩, e, Option.bind_some, allKnown_is r.f0 _ q6 q7 (rd_L13 d r.f1) S' (fun v hv hx => by rw [hS v hv hx]; simp) _ q8, rh_is r.f0 _ q6 _ q9 _ q8, Option.bind_some, Option.bind_some, h1, h2, List.all_cons]
    unfold refHB
    cases RB r.f0 (rd_L6 (rd_T49 s r.f1).f2 r.f2) (rd_L13 d r.f1) (rd_L13 d n) <;> exact ⟨rfl, rfl⟩

/-! #### data -/
def holdsB (s : List S49) (d : List (List (List S64))) : Nat → Nat → Bool
  | 0, _ => true
  | g + 1, i => ((rd_T49 s i).f2.all fun k => KB k [] (rd_L13 d i)) && ((rd_T49 s i).f3.all (refHB s d i) && holdsB s d g (i + 1))
def dataB (s : List S49) (d : List (List (List S64))) : Bool := validB s && (decide (d.length = s.length) && (dataFitP s d && holdsB s d s.length 0))
theorem rowsFit_len {t : S49} : ∀ {rows : List (List S64)}, rowsFitP t rows = true → ∀ row ∈ rows, row.length = t.f1.length
  | [], _, row, h => by cases h
  | x :: r, h, row, hm => by
    rw [rowsFitP] at h
    split at h
    · rename_i q
      rcases List.mem_cons.1 hm with rfl | hm
      · unfold fitsRowP at q
        split at q
        · assumption
        · cases q
      · exact rowsFit_len h row hm
    · cases h
theorem dataFit_at : ∀ {s : List S49} {d : List (List (List S64))}, dataFitP s d = true → ∀ (n : Nat), n < s.length → n < d.length → (rd_L13 d (n : Int)).length ≤ 1000 ∧ rowsFitP (rd_T49 s (n : Int)) (rd_L13 d (n : Int)) = true
  | [], _, _, n, h1, _ => by simp at h1
  | _ :: _, [], _, n, _, h2 => by simp at h2
  | t :: s, rows :: d, h, n, h1, h2 => by
    rw [dataFitP] at h
    split at h
    · cases h
    rename_i q
    split at h
    · rename_i q2
      cases n with
      | zero => exact ⟨by show rows.length ≤ 1000; omega, q2⟩
      | succ n =>
        have := dataFit_at h n (by simpa using h1) (by simpa using h2)
        have e1 : rd_T49 (t :: s) ((n + 1 : Nat) : Int) = rd_T49 s (n : Int) := by unfold rd_T49; simp
        have e2 : rd_L13 (rows :: d) ((n + 1 : Nat) : Int) = rd_L13 d (n : Int) := by unfold rd_L13; simp
        rw [e1, e2]; exact this
    · cases h
theorem tabsB_at (s : List S49) : ∀ (d i : Nat), i + d = s.length → tabsB s d i = true → ∀ j, i ≤ j → j < s.length → tabB (s.take j) (rd_T49 s (j : Int)) = true := by
  intro d
  induction d with
  | zero => intro i hi _ j h1 h2; omega
  | succ d ih =>
    intro i hi h j h1 h2
    rw [tabsB, Bool.and_eq_true] at h
    by_cases e : j = i
    · rw [e]; exact h.1
    · exact ih (i + 1) (by omega) h.2 j (by omega) h2
theorem validB_at {s : List S49} (h : validB s = true) : s.length ≤ 16 ∧ ∀ j, j < s.length → tabB (s.take j) (rd_T49 s (j : Int)) = true := by
  unfold validB at h
  simp only [Bool.and_eq_true] at h
  exact ⟨of_decide_eq_true h.1, fun j hj => tabsB_at s s.length 0 (by omega) h.2.2 j (by omega) hj⟩
theorem kindsG_in (tc oc : List S78) (all key : List Int) : ∀ (d i : Nat), i + d = all.length → kindsG tc oc all key d i = true → ∀ j, i ≤ j → j < all.length → 0 ≤ rd all (j : Int) ∧ rd all (j : Int) < (tc.length : Int) := by
  intro d
  induction d with
  | zero => intro i hi _ j h1 h2; omega
  | succ d ih =>
    intro i hi h j h1 h2
    rw [kindsG] at h
    split at h
    · cases h
    split at h
    · cases h
    split at h
    · by_cases e : j = i
      · rw [e]; omega
      · exact ih (i + 1) (by omega) h j (by omega) h2
    · cases h
/-- What a valid scheme's references are good for, at data that fit. -/
theorem ref_ok {s : List S49} (hv : validB s = true) {d : List (List (List S64))} (hl : d.length = s.length) (hfit : ∀ n, n < s.length → ∀ row ∈ rd_L13 d (n : Int), row.length = (rd_T49 s (n : Int)).f1.length)
    (n : Nat) (hn : n < s.length) : ∀ r ∈ (rd_T49 s (n : Int)).f3, RefOk s d n r := by
  intro r hr
  obtain ⟨h16, hat⟩ := validB_at hv
  have hb := (tabB_facts (hat n hn)).2.2 r hr
  have hlen : (s.take n).length = n := by rw [List.length_take]; omega
  unfold refB at hb
  rw [hlen] at hb
  split at hb
  · cases hb
  split at hb
  · cases hb
  split at hb
  · cases hb
  rename_i q1 q2 q3
  rw [rd49_take (by omega) (by omega)] at hb
  split at hb
  · cases hb
  rename_i q4
  split at hb
  case isFalse => cases hb
  rename_i q5
  rw [Bool.and_eq_true] at hb
  have hj : r.f1.toNat < s.length := by omega
  have htab := tabB_facts (hat r.f1.toNat hj)
  rw [Int.toNat_of_nonneg (by omega)] at htab
  have hris := htab.2.1 _ (rdL6_mem (s := (rd_T49 s r.f1).f2) (i := r.f2) (by omega) (by omega))
  have hkin := kindsG_in _ _ _ _ r.f0.length 0 (by omega) hb.1
  refine ⟨by omega, by omega, by omega, by omega, by omega, by omega, ?_, ?_, ?_⟩
  · have h1 := risB_len hris (by omega)
    have := htab.1
    omega
  · intro row hrow c hc
    obtain ⟨j, hj, rfl⟩ := List.getElem_of_mem hc
    have := hkin j (by omega) hj
    rw [rd_at hj] at this
    rw [hfit n hn row hrow]
    exact this
  · intro y hy q hq
    have h1 := hfit r.f1.toNat hj y (by rw [Int.toNat_of_nonneg (by omega)]; exact hy)
    rw [Int.toNat_of_nonneg (by omega)] at h1
    rw [h1]
    exact risB_in hris q hq
theorem key_ok {s : List S49} (hv : validB s = true) (n : Nat) (hn : n < s.length) {rows : List (List S64)} (hfit : ∀ row ∈ rows, row.length = (rd_T49 s (n : Int)).f1.length) : ∀ key ∈ (rd_T49 s (n : Int)).f2, key.length ≤ 8 ∧ ∀ row ∈ rows, inR row key := by
  intro key hk
  have htab := tabB_facts ((validB_at hv).2 n hn)
  have hris := htab.2.1 key hk
  refine ⟨?_, fun row hrow q hq => ?_⟩
  · have h1 := risB_len hris (by omega)
    have := htab.1
    omega
  · rw [hfit row hrow]; exact risB_in hris q hq
theorem holds_is {s : List S49} (hv : validB s = true) {d : List (List (List S64))} (hl : d.length = s.length) (hfit : dataFitP s d = true) : ∀ (g i : Nat), i + g = s.length → holdsP s d i (d.drop i) = some (holdsB s d g i) ∧ refHoldsP s d g i = some (holdsB s d g i) := by
  have hrow : ∀ n, n < s.length → ∀ row ∈ rd_L13 d (n : Int), row.length = (rd_T49 s (n : Int)).f1.length := fun n hn => rowsFit_len (dataFit_at hfit n hn (by omega)).2
  intro g
  induction g with
  | zero => intro i hi; rw [List.drop_eq_nil_of_le (by omega)]; exact ⟨rfl, rfl⟩
  | succ g ih =>
    intro i hi
    obtain ⟨h1, h2⟩ := ih (i + 1) (by omega)
    obtain ⟨k1, k2⟩ := keys_is (rd_L13 d (i : Int)) _ (key_ok hv i (by omega) (hrow i (by omega)))
    obtain ⟨r1, r2⟩ := refs_is s d i _ (ref_ok hv hl hrow i (by omega))
    rw [List.drop_eq_getElem_cons (by omega : i < d.length), holdsP, refHoldsP, ← rdL13 (by omega : i < d.length), k1, k2, r1, r2, holdsB, Option.bind_some, Option.bind_some, Option.bind_some, Option.bind_some, h1, h2]
    cases ((rd_T49 s (i : Int)).f2.all fun k => KB k [] (rd_L13 d (i : Int))) <;> cases (rd_T49 s (i : Int)).f3.all (refHB s d i) <;> exact ⟨rfl, rfl⟩
theorem refData_is (s : List S49) (d : List (List (List S64))) : refDataP s d = some (dataB s d) := by
  unfold refDataP dataB
  rw [refValid_is, Option.bind_some]
  cases hv : validB s with
  | false => rfl
  | true =>
    rw [if_pos rfl]
    by_cases q : d.length = s.length
    · rw [if_pos q, decide_eq_true q]
      cases hf : dataFitP s d with
      | false => rfl
      | true => rw [if_pos rfl, (holds_is hv q hf s.length 0 (by omega)).2]; rfl
    · rw [if_neg q, decide_eq_false q]; rfl
theorem data_is (s : List S49) (hw : ∀ t ∈ s, wfT t) (d : List (List (List S64))) : Ev (fun k => dataP k s d) (dataB s d) := by
  obtain ⟨K, hK⟩ := valid_is s hw
  refine ⟨K, fun k hk => ?_⟩
  have h := hK k hk
  simp only at h
  show dataP k s d = _
  unfold dataP dataB
  rw [h, Option.bind_some]
  cases hv : validB s with
  | false => rfl
  | true =>
    rw [if_pos rfl]
    by_cases q : d.length = s.length
    · rw [if_pos q, decide_eq_true q]
      cases hf : dataFitP s d with
      | false => rfl
      | true =>
        have := (holds_is hv q hf s.length 0 (by omega)).1
        rw [List.drop_zero] at this
        rw [if_pos rfl, this]; rfl
    · rw [if_neg q, decide_eq_false q]; rfl

/-! #### where a table stands -/
theorem find_G (nm : ByteArray) : ∀ (l : List S49) (i : Nat), (0 ≤ findP nm i l → refFindG nm i l = (findP nm i l, true)) ∧ (¬ 0 ≤ findP nm i l → refFindG nm i l = (0, false))
  | [], i => ⟨fun h => by rw [findP] at h; omega, fun _ => rfl⟩
  | t :: l, i => by
    rw [findP, refFindG]
    by_cases q : t.f0 = nm
    · rw [if_pos ((ba_eq _ _).2 q), if_pos q]
      exact ⟨fun _ => rfl, fun h => absurd (by omega) h⟩
    · rw [if_neg (fun e => q ((ba_eq _ _).1 e)), if_neg q]
      exact find_G nm l (i + 1)
def findB (s : List S49) (nm : ByteArray) : Int × Bool := if validB s = true then refFindG nm 0 s else (0, false)
theorem refFind_is (s : List S49) (nm : ByteArray) : refFindP s nm = some (findB s nm) := by
  unfold refFindP findB
  rw [refValid_is, Option.bind_some]
  cases validB s <;> rfl
theorem find_is (s : List S49) (hw : ∀ t ∈ s, wfT t) (nm : ByteArray) : Ev (fun k => scheme_Find.f k s nm) (findB s nm) := by
  obtain ⟨K, hK⟩ := valid_is s hw
  refine ⟨K, fun k hk => ?_⟩
  have h := hK k hk
  simp only at h
  show scheme_Find.f k s nm = _
  unfold scheme_Find.f findB
  obtain ⟨h1, h2⟩ := find_G nm s 0
  by_cases q : 0 ≤ findP nm 0 s
  · rw [if_pos q, h, Option.bind_some, h1 q]
    cases validB s <;> rfl
  · rw [if_neg q, h2 q]
    cases validB s <;> rfl
end Go.Proofs.YthgfdnffnbclpaaDoor.PAll
