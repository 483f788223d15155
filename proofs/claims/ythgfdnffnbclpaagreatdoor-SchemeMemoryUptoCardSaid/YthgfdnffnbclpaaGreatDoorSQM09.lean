import Derived.Test.YthgfdnffnbclpaaGreatDoorSQM08
import Derived.Test.YthgfdnffnbclpaaGreatDoorSQM07
set_option linter.unusedVariables false
set_option linter.unusedSimpArgs false
namespace Go.Proofs.YthgfdnffnbclpaaGreatDoor.PAll
open Go.RowKit Go.Proofs.YthgfdnffnbclpaaGreatDoorW.PrintWords Go.Proofs.YthgfdnffnbclpaaGreatDoorW.PrintLast Go.Proofs.YthgfdnffnbclpaaGreatDoorW.PrintMore

/-! ### scheme_validTable -/
mutual
def scheme_validTable.j0 : Nat → List (S49) → Bool → ByteArray → List (S78) → List (List Int) → List (S75) → List Int → Option (Bool)
  | 0, _, _, _, _, _, _, _ => none
  | k + 1, x2, x39, x281000, x281001, x281002, x281003, x281004 => if x39 = true then (some false) else ((scheme_mapColName.f k x281001 0).bind fun t283 => ((scheme_distinct_string.f t283).bind fun t286 => (if t286 = true then (scheme_validTable.l0 k x2 x281001 (x281001.length : Int) 0 x281000 x281001 x281002 x281003 x281004) else (some false))))
def scheme_validTable.l0 : Nat → List (S49) → List (S78) → Int → Int → ByteArray → List (S78) → List (List Int) → List (S75) → List Int → Option (Bool)
  | 0, _, _, _, _, _, _, _, _, _ => none
  | k + 1, x2, x46, x47, x48, x281000, x281001, x281002, x281003, x281004 => if x48 < x47 then (if 0 ≤ x48 then (if x48 < (x46.length : Int) then ((scheme_validColumn.f k ((rd_T78 x46 x48).f0) ((rd_T78 x46 x48).f1) ((rd_T78 x46 x48).f2) ((rd_T78 x46 x48).f3) ((rd_T78 x46 x48).f4)).bind fun t289 => (if t289 = true then (scheme_validTable.l0 k x2 x46 x47 (wrap64 (x48 + 1)) x281000 x281001 x281002 x281003 x281004) else (some false))) else (none)) else (none)) else (scheme_validTable.l1 k x2 x281002 (x281002.length : Int) 0 x281000 x281001 x281002 x281003 x281004)
def scheme_validTable.l1 : Nat → List (S49) → List (List Int) → Int → Int → ByteArray → List (S78) → List (List Int) → List (S75) → List Int → Option (Bool)
  | 0, _, _, _, _, _, _, _, _, _ => none
  | k + 1, x2, x57, x58, x59, x281000, x281001, x281002, x281003, x281004 => if x59 < x58 then (if 0 ≤ x59 then (if x59 < (x57.length : Int) then (if ((rd_L6 x57 x59).length : Int) = 0 then (some false) else ((scheme_rising.f k (rd_L6 x57 x59) (x281001.length : Int)).bind fun t291 => (if t291 = true then (scheme_validTable.l1 k x2 x57 x58 (wrap64 (x59 + 1)) x281000 x281001 x281002 x281003 x281004) else (some false)))) else (none)) else (none)) else ((scheme_anyBadRef.f k x281003 x2 x281000 x281001 x281002 x281003 x281004).bind fun t292 => (some (!t292)))
end
def scheme_validTable.f (k : Nat) (l0 : List (S49)) (a1_0 : ByteArray) (l1_1 : List (S78)) (l1_2 : List (List Int)) (l1_3 : List (S75)) (l1_4 : List Int) : Option (Bool) := (lex_IsName.f k a1_0).bind fun t281 => (if t281 = true then (if (l1_1.length : Int) > 8 then (scheme_validTable.j0 k l0 true a1_0 l1_1 l1_2 l1_3 l1_4) else (if (l1_2.length : Int) > 4 then (scheme_validTable.j0 k l0 true a1_0 l1_1 l1_2 l1_3 l1_4) else (if (l1_3.length : Int) > 4 then (scheme_validTable.j0 k l0 true a1_0 l1_1 l1_2 l1_3 l1_4) else ((scheme_rising.f k l1_4 (l1_1.length : Int)).bind fun t282 => (scheme_validTable.j0 k l0 (!t282) a1_0 l1_1 l1_2 l1_3 l1_4))))) else (scheme_validTable.j0 k l0 true a1_0 l1_1 l1_2 l1_3 l1_4))
theorem drawn_below {B : Nat} {w w' : World} (h : Drawn0 w w') : Below B w w' := by
  obtain ⟨m, rfl⟩ := h
  exact pw_below_drewN (Below.refl _ _) m

set_option maxRecDepth 100000 in
theorem anyBad_walk (k : Nat) (A0 : Option Addr) (c0 : Nat) (l0 : List S75) (A1 : Option Addr) (c1 : Nat) (l1 : List S49) (a2_0 : ByteArray) (A2_1 : Option Addr) (c2_1 : Nat) (l2_1 : List S78) (A2_2 : Option Addr) (c2_2 : Nat) (l2_2 : List (List Int)) (A2_3 : Option Addr) (c2_3 : Nat) (l2_3 : List S75) (A2_4 : Option Addr) (c2_4 : Nat) (l2_4 : List Int) (r : Bool) (gb gt : Nat) (w : World)
    (hr0 : Kd.C k75 w A0 l0.length l0) (hc0 : l0.length ≤ c0) (hr1 : Kd.C k49 w A1 l1.length l1) (hc1 : l1.length ≤ c1) (hr2_1 : Kd.C k78 w A2_1 l2_1.length l2_1) (hc2_1 : l2_1.length ≤ c2_1) (hr2_2 : Kd.C (Kd.slice 3 (Kd.int .i64)) w A2_2 l2_2.length l2_2) (hc2_2 : l2_2.length ≤ c2_2) (hr2_3 : Kd.C k75 w A2_3 l2_3.length l2_3) (hc2_3 : l2_3.length ≤ c2_3) (hr2_4 : Kd.C (Kd.int .i64) w A2_4 l2_4.length l2_4) (hc2_4 : l2_4.length ≤ c2_4)
    (hb : w.heap[gb]? = some (.cells #[.slice A1 l1.length c1] 23 (0, 0))) (ht : w.heap[gt]? = some (.cells #[.string a2_0, .slice A2_1 l2_1.length c2_1, .slice A2_2 l2_2.length c2_2, .slice A2_3 l2_3.length c2_3, .slice A2_4 l2_4.length c2_4] 72 (0, 0)))
    (h : scheme_anyBadRef.f k l0 l1 a2_0 l2_1 l2_2 l2_3 l2_4 = some r) :
    Calls Tryz.prog 131 #[.slice A0 l0.length c0, .func (.func 132) #[] #[.pointer (some ⟨gb, 0, none⟩), .pointer (some ⟨gt, 0, none⟩)]] w fun e w' => e = .returned (.bool r) ∧ Below w.heap.size w w' := by
  unfold scheme_anyBadRef.f at h
  obtain ⟨i, hv, hr⟩ := Option.bind_eq_some_iff.mp h
  obtain rfl := Option.some.inj hr
  have HV := Aside0.mk (idxBad_walk k A0 c0 l0 A1 c1 l1 a2_0 A2_1 c2_1 l2_1 A2_2 c2_2 l2_2 A2_3 c2_3 l2_3 A2_4 c2_4 l2_4 i gb gt w hr0 hc0 hr1 hc1 hr2_1 hc2_1 hr2_2 hc2_2 hr2_3 hc2_3 hr2_4 hc2_4 hb ht hv)
  clear hr0 hr1 hr2_1 hr2_2 hr2_3 hr2_4 h hv hr hb ht
  go_enter Tryz.func131, Tryz.ntmps131
  go_wp2_with (go_at_call 160; refine HV.out.mono ?_; rintro e w1 ⟨rfl, hb1⟩)
  go_ret
  exact ⟨by first | rfl | (simp; done), hb1⟩

set_option maxHeartbeats 4000000 in
set_option maxRecDepth 100000 in
theorem scheme_validTable.calls (k : Nat) (A0 : Option Addr) (c0 : Nat) (l0 : List S49) (a1_0 : ByteArray) (A1_1 : Option Addr) (c1_1 : Nat) (l1_1 : List S78) (A1_2 : Option Addr) (c1_2 : Nat) (l1_2 : List (List Int)) (A1_3 : Option Addr) (c1_3 : Nat) (l1_3 : List S75) (A1_4 : Option Addr) (c1_4 : Nat) (l1_4 : List Int) (r : Bool) (w : World)
    (hr0 : Kd.C k49 w A0 l0.length l0) (hc0 : l0.length ≤ c0) (hr1_1 : Kd.C k78 w A1_1 l1_1.length l1_1) (hc1_1 : l1_1.length ≤ c1_1) (hr1_2 : Kd.C (Kd.slice 3 (Kd.int .i64)) w A1_2 l1_2.length l1_2) (hc1_2 : l1_2.length ≤ c1_2) (hr1_3 : Kd.C k75 w A1_3 l1_3.length l1_3) (hc1_3 : l1_3.length ≤ c1_3) (hr1_4 : Kd.C (Kd.int .i64) w A1_4 l1_4.length l1_4) (hc1_4 : l1_4.length ≤ c1_4)
    (h : scheme_validTable.f k l0 a1_0 l1_1 l1_2 l1_3 l1_4 = some r) (hL : LaidL w) :
    Calls Tryz.prog 77 #[.slice A0 l0.length c0, .agg #[.string a1_0, .slice A1_1 l1_1.length c1_1, .slice A1_2 l1_2.length c1_2, .slice A1_3 l1_3.length c1_3, .slice A1_4 l1_4.length c1_4]] w fun e w' => e = .returned (.bool r) ∧ Below w.heap.size w w' := by
  obtain ⟨E, hE⟩ : ∃ E, E = (w.alloc (Obj.cells #[.slice A0 l0.length c0] 23)).alloc (Obj.cells #[.string a1_0, .slice A1_1 l1_1.length c1_1, .slice A1_2 l1_2.length c1_2, .slice A1_3 l1_3.length c1_3, .slice A1_4 l1_4.length c1_4] 72) := ⟨_, rfl⟩
  obtain ⟨gb, hgb⟩ : ∃ g, g = w.heap.size := ⟨_, rfl⟩
  have HE : Aside0 (Below w.heap.size w E) := ⟨by rw [hE]; exact ((Below.refl _ _).alloc (Nat.le_refl _) _).alloc (by simp) _⟩
  have HGB : Aside0 (E.heap[gb]? = some (.cells #[.slice A0 l0.length c0] 23 (0, 0))) := ⟨by rw [hE, hgb, Go.Deep.blk_alloc_lt _ _ _ (by simp)]; exact Go.Deep.blk_alloc_new w _⟩
  have HGT : Aside0 (E.heap[gb + 1]? = some (.cells #[.string a1_0, .slice A1_1 l1_1.length c1_1, .slice A1_2 l1_2.length c1_2, .slice A1_3 l1_3.length c1_3, .slice A1_4 l1_4.length c1_4] 72 (0, 0))) := ⟨by rw [hE, hgb]; have := Go.Deep.blk_alloc_new (w.alloc (Obj.cells #[.slice A0 l0.length c0] 23)) (Obj.cells #[.string a1_0, .slice A1_1 l1_1.length c1_1, .slice A1_2 l1_2.length c1_2, .slice A1_3 l1_3.length c1_3, .slice A1_4 l1_4.length c1_4] 72); simpa using this⟩
  -- what every later world gives
  have FC : Aside0 (∀ W, Below E.heap.size E W → W.cell? ⟨gb + 1, 0, none⟩ = some (.string a1_0) ∧ W.cell? ⟨gb + 1, 1, none⟩ = some (.slice A1_1 l1_1.length c1_1) ∧ W.cell? ⟨gb + 1, 2, none⟩ = some (.slice A1_2 l1_2.length c1_2) ∧ W.cell? ⟨gb + 1, 3, none⟩ = some (.slice A1_3 l1_3.length c1_3) ∧ W.cell? ⟨gb + 1, 4, none⟩ = some (.slice A1_4 l1_4.length c1_4)) := ⟨fun W hW => by
    have hh := (hW.block _ (blk_lt HGT.out)).trans HGT.out
    exact ⟨(blk_cell hh 0).trans rfl, (blk_cell hh 1).trans rfl, (blk_cell hh 2).trans rfl, (blk_cell hh 3).trans rfl, (blk_cell hh 4).trans rfl⟩⟩
  have HR := Aside0.mk hr0
  have H1 := Aside0.mk hr1_1
  have H2 := Aside0.mk hr1_2
  have H3 := Aside0.mk hr1_3
  have H4 := Aside0.mk hr1_4
  have HL := Aside0.mk hL
  have HH := Aside0.mk h
  have HRI : Aside0 (∀ (k : Nat) (W : World) (A : Option Addr) (c : Nat) (l : List Int) (n : Int) (b : Bool), Kd.C (Kd.int .i64) W A l.length l → l.length ≤ c → scheme_rising.f k l n = some b → Calls Tryz.prog 127 #[.slice A l.length c, .int .i64 n] W fun e w' => e = .returned (.bool b) ∧ Below W.heap.size W w') := ⟨fun k W A c l n b hC hc hf => (scheme_rising.calls k A c l n b W hC hc hf).mono fun e w' hh => ⟨hh.1, drawn_below hh.2⟩⟩
  have HBD : Aside0 (∀ W, Below E.heap.size E W → Below w.heap.size w W) := ⟨fun W hW => below_step HE.out hW⟩
  have hB0 := Aside0.mk (Below.refl E.heap.size E)
  clear hr0 hr1_1 hr1_2 hr1_3 hr1_4 hL h HE
  subst hE
  subst hgb
  go_enter Tryz.func77, Tryz.ntmps77
  go_upto_region 1 with (fail)
  generalize hE : (w.alloc (Obj.cells #[.slice A0 l0.length c0] 23)).alloc (Obj.cells #[.string a1_0, .slice A1_1 l1_1.length c1_1, .slice A1_2 l1_2.length c1_2, .slice A1_3 l1_3.length c1_3, .slice A1_4 l1_4.length c1_4] 72) = E at *
  go_cut [39] (fun v39 wc => ∃ (kq : Nat) (b : Bool), v39 = .bool b ∧ Aside0 (scheme_validTable.j0 kq l0 b a1_0 l1_1 l1_2 l1_3 l1_4 = some r) ∧ Aside0 (Below E.heap.size E wc))
  case first =>
    have h := HH.out
    unfold scheme_validTable.f at h
    obtain ⟨nm, hnm, hrest⟩ := Option.bind_eq_some_iff.mp h
    have HNM : Aside0 (Calls Tryz.prog 52 #[.string a1_0] E fun e w' => e = .returned (.bool nm) ∧ Below E.heap.size E w') := ⟨lex_IsName.calls k a1_0 nm E hnm (LaidL.below HL (HBD.out E hB0.out))⟩
    obtain ⟨e0, e1, e2, e3, e4⟩ := FC.out E hB0.out
    clear h hnm
    cases nm with
    | false =>
      rw [if_neg (by decide)] at hrest
      have HR' := Aside0.mk hrest
      clear hrest
      go_wp2_with (go_at_call 52; refine HNM.out.mono ?_; rintro e w1 ⟨rfl, hb1⟩)
      go_meet
      case rel => exact ⟨_, true, rfl, HR', ⟨hb1⟩⟩
    | true =>
      rw [if_pos rfl] at hrest
      by_cases q1 : (l1_1.length : Int) > 8
      · rw [if_pos q1] at hrest
        have d1 : decide (8 < (l1_1.length : Int)) = true := decide_eq_true q1
        have HR' := Aside0.mk hrest
        clear hrest q1
        go_wp2_with (go_at_call 52; refine HNM.out.mono ?_; rintro e w1 ⟨rfl, hb1⟩; obtain ⟨f0, f1, f2, f3, f4⟩ := FC.out w1 hb1)
        go_meet
        case rel => exact ⟨_, true, rfl, HR', ⟨hb1⟩⟩
      rw [if_neg q1] at hrest
      have d1 : decide (8 < (l1_1.length : Int)) = false := decide_eq_false q1
      clear q1
      by_cases q2 : (l1_2.length : Int) > 4
      · rw [if_pos q2] at hrest
        have d2 : decide (4 < (l1_2.length : Int)) = true := decide_eq_true q2
        have HR' := Aside0.mk hrest
        clear hrest q2
        go_wp2_with (go_at_call 52; refine HNM.out.mono ?_; rintro e w1 ⟨rfl, hb1⟩; obtain ⟨f0, f1, f2, f3, f4⟩ := FC.out w1 hb1)
        go_meet
        case rel => exact ⟨_, true, rfl, HR', ⟨hb1⟩⟩
      rw [if_neg q2] at hrest
      have d2 : decide (4 < (l1_2.length : Int)) = false := decide_eq_false q2
      clear q2
      by_cases q3 : (l1_3.length : Int) > 4
      · rw [if_pos q3] at hrest
        have d3 : decide (4 < (l1_3.length : Int)) = true := decide_eq_true q3
        have HR' := Aside0.mk hrest
        clear hrest q3
        go_wp2_with (go_at_call 52; refine HNM.out.mono ?_; rintro e w1 ⟨rfl, hb1⟩; obtain ⟨f0, f1, f2, f3, f4⟩ := FC.out w1 hb1)
        go_meet
        case rel => exact ⟨_, true, rfl, HR', ⟨hb1⟩⟩
      rw [if_neg q3] at hrest
      have d3 : decide (4 < (l1_3.length : Int)) = false := decide_eq_false q3
      clear q3
      obtain ⟨b, hb, hrest⟩ := Option.bind_eq_some_iff.mp hrest
      have HR' := Aside0.mk hrest
      have HN2 : Aside0 (∀ W, Below E.heap.size E W → Calls Tryz.prog 127 #[.slice A1_4 l1_4.length c1_4, .int .i64 l1_1.length] W fun e w' => e = .returned (.bool b) ∧ Below W.heap.size W w') := ⟨fun W hW => HRI.out k W A1_4 c1_4 l1_4 _ b (Kd.C_below H4.out (HBD.out W hW)) hc1_4 hb⟩
      clear hrest hb
      go_wp2_with (first | (go_at_call 52; refine HNM.out.mono ?_; rintro e w1 ⟨rfl, hb1⟩; obtain ⟨f0, f1, f2, f3, f4⟩ := FC.out w1 hb1) | (go_at_call 127; refine (HN2.out _ hb1).mono ?_; rintro e w2 ⟨rfl, hb2⟩))
      go_meet
      case rel => exact ⟨_, !b, by first | rfl | (simp; done), HR', ⟨below_step hb1 hb2⟩⟩
  case rest =>
    clear HH hB0
    obtain ⟨kq, b, rfl, HA, HB⟩ := hcut
    cases kq with
    | zero => exact absurd HA.out (by simp [scheme_validTable.j0])
    | succ k1 =>
      have h := HA.out
      clear HA
      simp only [scheme_validTable.j0] at h
      cases b with
      | true =>
        rw [if_pos rfl] at h
        obtain rfl := Option.some.inj h
        clear h
        go_wp2
        go_ret
        exact ⟨rfl, HBD.out _ HB.out⟩
      | false =>
        rw [if_neg (by decide)] at h
        obtain ⟨nms, hm, h⟩ := Option.bind_eq_some_iff.mp h
        obtain ⟨b, hd, h⟩ := Option.bind_eq_some_iff.mp h
        have HMC := Aside0.mk (scheme_mapColName.calls k1 A1_1 c1_1 l1_1 0 nms wc (Kd.C_below H1.out (HBD.out wc HB.out)) hc1_1 hm)
        have HDC : Aside0 (∀ A c W, Kd.C Kd.string W A nms.length nms → nms.length ≤ c → Calls Tryz.prog 64 #[.slice A nms.length c] W fun e w' => e = .returned (.bool b) ∧ Below W.heap.size W w') := ⟨fun A c W hC hc => scheme_distinct_string.calls A c nms b W hC hc hd⟩
        have HH := Aside0.mk h
        clear h hm hd
        obtain ⟨e0, e1, e2, e3, e4⟩ := FC.out wc HB.out
        cases b with
        | false =>
          have h := HH.out
          rw [if_neg (by decide)] at h
          obtain rfl := Option.some.inj h
          clear h
          go_wp2_with (first | (go_at_call 128; refine HMC.out.mono ?_; rintro e w1 ⟨v, rfl, hv, hb1⟩; obtain ⟨A7, c7, e7⟩ := Kd.R_slice hv; subst e7; obtain ⟨f0, f1, f2, f3, f4⟩ := FC.out w1 (below_step HB.out hb1)) | (go_at_call 64; refine (HDC.out _ _ _ (Kd.R_reads' hv).2.2 (Kd.R_reads' hv).2.1).mono ?_; rintro e w2 ⟨rfl, hb2⟩))
          go_ret
          exact ⟨rfl, HBD.out _ (below_step (below_step HB.out hb1) hb2)⟩
        | true =>
          have h := HH.out
          rw [if_pos rfl] at h
          have HP := Aside0.mk h
          clear h HH
          go_wp2_with (first | (go_at_call 128; refine HMC.out.mono ?_; rintro e w1 ⟨v, rfl, hv, hb1⟩; obtain ⟨A7, c7, e7⟩ := Kd.R_slice hv; subst e7; obtain ⟨f0, f1, f2, f3, f4⟩ := FC.out w1 (below_step HB.out hb1)) | (go_at_call 64; refine (HDC.out _ _ _ (Kd.R_reads' hv).2.2 (Kd.R_reads' hv).2.1).mono ?_; rintro e w2 ⟨rfl, hb2⟩; have HW2 := Aside0.mk (below_step (below_step HB.out hb1) hb2); clear e0 e1 e2 e3 e4; obtain ⟨e0, e1, e2, e3, e4⟩ := FC.out w2 HW2.out; clear hb1 hv))
          have HVC : Aside0 (∀ (k : Nat) (x : S78) (b : Bool) (W : World), Below E.heap.size E W → scheme_validColumn.f k x.f0 x.f1 x.f2 x.f3 x.f4 = some b → Calls Tryz.prog 130 #[.agg #[.string x.f0, .int .u8 x.f1, .bool x.f2, .int .i64 x.f3, .int .i64 x.f4]] W fun e w' => e = .returned (.bool b) ∧ Below W.heap.size W w') := ⟨fun k x b W hW hf => scheme_validColumn.calls k _ _ _ _ _ b W hf (LaidL.below HL (HBD.out W hW))⟩
          clear HMC HDC HB HL
          go_loopg [48] k1 (fun gk v48 wx => ∃ (i : Int), v48 = .int .i64 i ∧ Aside0 (Below E.heap.size E wx) ∧ Aside0 (scheme_validTable.l0 gk l0 l1_1 (l1_1.length : Int) i a1_0 l1_1 l1_2 l1_3 l1_4 = some r))
          case atStart => exact ⟨0, rfl, HW2, HP⟩
          case round =>
            clear HW2 HP e0 e1 e2 e3 e4
            obtain ⟨i, rfl, HW, HP⟩ := hrel
            cases gk with
            | zero => exact absurd HP.out (by simp [scheme_validTable.l0])
            | succ gk =>
              have hp := HP.out
              simp only [scheme_validTable.l0] at hp
              by_cases hii : i < (l1_1.length : Int)
              · rw [if_pos hii] at hp
                by_cases hi0 : 0 ≤ i
                case neg => rw [if_neg hi0] at hp; cases hp
                rw [if_pos hi0, if_pos hii] at hp
                obtain ⟨b, hv, hp2⟩ := Option.bind_eq_some_iff.mp hp
                clear hp HP
                have HP := Aside0.mk hp2
                clear hp2
                obtain ⟨ad, hA, hx0, hx1, hx2, hx3, hx4⟩ := at_T78 (Kd.C_below H1.out (HBD.out wr HW.out)) i hi0 hii
                cases hA
                have HN : Aside0 (∀ o, Calls Tryz.prog 130 #[.agg #[.string (rd_T78 l1_1 i).f0, .int .u8 (rd_T78 l1_1 i).f1, .bool (rd_T78 l1_1 i).f2, .int .i64 (rd_T78 l1_1 i).f3, .int .i64 (rd_T78 l1_1 i).f4]] (wr.alloc o) fun e w' => e = .returned (.bool b) ∧ Below (wr.alloc o).heap.size (wr.alloc o) w') := ⟨fun o => HVC.out gk (rd_T78 l1_1 i) b (wr.alloc o) (HW.out.alloc HW.out.size _) hv⟩
                clear hv HVC
                generalize rd_T78 l1_1 i = x at *
                cases b with
                | false =>
                  have hp := HP.out
                  rw [if_neg (by decide)] at hp
                  obtain rfl := Option.some.inj hp
                  clear hp
                  go_wp2_with (go_at_call 130; refine (HN.out _).mono ?_; rintro e w1 ⟨rfl, hb1⟩)
                  go_ret
                  exact ⟨rfl, HBD.out _ (below_step (HW.out.alloc HW.out.size _) hb1)⟩
                | true =>
                  have hp := HP.out
                  rw [if_pos rfl] at hp
                  have HP2 := Aside0.mk hp
                  clear hp
                  go_wp2_with (go_at_call 130; refine (HN.out _).mono ?_; rintro e w1 ⟨rfl, hb1⟩)
                  go_roundg gk
                  case measure => omega
                  case rel => exact ⟨wrap64 (i + 1), by first | rfl | (simp; done), ⟨below_step (HW.out.alloc HW.out.size _) hb1⟩, HP2⟩
              · rw [if_neg hii] at hp
                have HP2 := Aside0.mk hp
                clear hp HP HVC
                obtain ⟨e0, e1, e2, e3, e4⟩ := FC.out wr HW.out
                go_wp2
                go_loopg [59] gk (fun gj v59 wx => ∃ (j : Int), v59 = .int .i64 j ∧ Aside0 (Below E.heap.size E wx) ∧ Aside0 (scheme_validTable.l1 gj l0 l1_2 (l1_2.length : Int) j a1_0 l1_1 l1_2 l1_3 l1_4 = some r))
                case atStart => exact ⟨0, rfl, HW, HP2⟩
                case round =>
                  clear HW HP2 e0 e1 e2 e3 e4
                  obtain ⟨j, rfl, HW, HP⟩ := hrel
                  obtain ⟨e0, e1, e2, e3, e4⟩ := FC.out wr HW.out
                  rename_i gk1
                  cases gk with
                  | zero => exact absurd HP.out (by simp [scheme_validTable.l1])
                  | succ gk =>
                    have hp := HP.out
                    simp only [scheme_validTable.l1] at hp
                    by_cases hjj : j < (l1_2.length : Int)
                    · rw [if_pos hjj] at hp
                      by_cases hj0 : 0 ≤ j
                      case neg => rw [if_neg hj0] at hp; cases hp
                      rw [if_pos hj0, if_pos hjj] at hp
                      obtain ⟨ad, Ak, ck, hA, hx, hck, hCk⟩ := at_L6 (Kd.C_below H2.out (HBD.out wr HW.out)) j hj0 hjj
                      cases hA
                      generalize rd_L6 l1_2 j = key at *
                      by_cases hz : (key.length : Int) = 0
                      · rw [if_pos hz] at hp
                        obtain rfl := Option.some.inj hp
                        have hzb : ((key.length : Int) == 0) = true := beq_iff_eq.mpr hz
                        clear hp HP hz hCk
                        go_wp2
                        go_ret
                        exact ⟨rfl, HBD.out _ HW.out⟩
                      · rw [if_neg hz] at hp
                        have hzb : ((key.length : Int) == 0) = false := beq_eq_false_iff_ne.mpr hz
                        obtain ⟨b, hv, hp2⟩ := Option.bind_eq_some_iff.mp hp
                        have HN := Aside0.mk (HRI.out gk wr Ak ck key _ b hCk hck hv)
                        clear hp HP hz hv hCk
                        have HP := Aside0.mk hp2
                        clear hp2
                        cases b with
                        | false =>
                          have hp := HP.out
                          rw [if_neg (by decide)] at hp
                          obtain rfl := Option.some.inj hp
                          clear hp
                          go_wp2_with (go_at_call 127; refine HN.out.mono ?_; rintro e w1 ⟨rfl, hb1⟩)
                          go_ret
                          exact ⟨rfl, HBD.out _ (below_step HW.out hb1)⟩
                        | true =>
                          have hp := HP.out
                          rw [if_pos rfl] at hp
                          have HP2 := Aside0.mk hp
                          clear hp
                          go_wp2_with (go_at_call 127; refine HN.out.mono ?_; rintro e w1 ⟨rfl, hb1⟩)
                          go_roundg gk
                          case measure => omega
                          case rel => exact ⟨wrap64 (j + 1), by first | rfl | (simp; done), ⟨below_step HW.out hb1⟩, HP2⟩
                    · rw [if_neg hjj] at hp
                      obtain ⟨b, hv, hp2⟩ := Option.bind_eq_some_iff.mp hp
                      obtain rfl := Option.some.inj hp2
                      have hB := HBD.out wr HW.out
                      have HN := Aside0.mk (anyBad_walk gk A1_3 c1_3 l1_3 A0 c0 l0 a1_0 A1_1 c1_1 l1_1 A1_2 c1_2 l1_2 A1_3 c1_3 l1_3 A1_4 c1_4 l1_4 b w.heap.size (w.heap.size + 1) wr (Kd.C_below H3.out hB) hc1_3 (Kd.C_below HR.out hB) hc0 (Kd.C_below H1.out hB) hc1_1 (Kd.C_below H2.out hB) hc1_2 (Kd.C_below H3.out hB) hc1_3 (Kd.C_below H4.out hB) hc1_4 ((HW.out.block _ (blk_lt HGB.out)).trans HGB.out) ((HW.out.block _ (blk_lt HGT.out)).trans HGT.out) hv)
                      clear hp hp2 HP hv hB
                      go_wp2_with (go_at_call 131; refine HN.out.mono ?_; rintro e w1 ⟨rfl, hb1⟩)
                      go_ret
                      exact ⟨by first | rfl | (simp; done), HBD.out _ (below_step HW.out hb1)⟩
end Go.Proofs.YthgfdnffnbclpaaGreatDoor.PAll
namespace Go.Proofs.YthgfdnffnbclpaaGreatDoor.PAll
open Go.RowKit Go.Proofs.YthgfdnffnbclpaaGreatDoorW.PrintWords Go.Proofs.YthgfdnffnbclpaaGreatDoorW.PrintLast Go.Proofs.YthgfdnffnbclpaaGreatDoorW.PrintMore

/-! ### scheme_Valid: function 9 -/
mutual
def scheme_Valid.j0 : Nat → List (S49) → Bool → Option (Bool)
  | 0, _, _ => none
  | k + 1, x0, x13 => if x13 = true then (some false) else (scheme_Valid.l0 k x0 x0 (x0.length : Int) 0)
def scheme_Valid.l0 : Nat → List (S49) → List (S49) → Int → Int → Option (Bool)
  | 0, _, _, _, _ => none
  | k + 1, x0, x14, x15, x16 => if x16 < x15 then (if 0 ≤ x16 then (if x16 < (x14.length : Int) then (if x16 ≤ (x0.length : Int) then ((scheme_validTable.f k (x0.take (x16 : Int).toNat) ((rd_T49 x14 x16).f0) ((rd_T49 x14 x16).f1) ((rd_T49 x14 x16).f2) ((rd_T49 x14 x16).f3) ((rd_T49 x14 x16).f4)).bind fun t309 => (if t309 = true then (scheme_Valid.l0 k x0 x14 x15 (wrap64 (x16 + 1))) else (some false))) else (none)) else (none)) else (none)) else (some true)
end
def scheme_Valid.f (k : Nat) (l0 : List (S49)) : Option (Bool) := if (l0.length : Int) > 16 then (scheme_Valid.j0 k l0 true) else ((scheme_mapTableName.f k l0 0).bind fun t299 => ((scheme_distinct_string.f t299).bind fun t302 => (scheme_Valid.j0 k l0 (!t302))))
set_option maxHeartbeats 4000000 in
set_option maxRecDepth 100000 in
theorem scheme_Valid.calls (k : Nat) (A0 : Option Addr) (c0 : Nat) (l0 : List (S49)) (r : Bool) (w : World) (hr0 : Kd.C k49 w A0 l0.length l0) (hc0 : l0.length ≤ c0) (h : scheme_Valid.f k l0 = some r) (hL : LaidL w) :
    Calls Tryz.prog 28 #[.slice A0 l0.length c0] w fun e w' => e = .returned (.bool r) ∧ Below w.heap.size w w' := by
  have HR := Aside0.mk hr0
  have HL := Aside0.mk hL
  have HH := Aside0.mk h
  have hB0 := Aside0.mk (Below.refl w.heap.size w)
  have HLEN := Aside0.mk hr0.2.1
  clear hr0 hL h
  go_enter Tryz.func28, Tryz.ntmps28
  go_upto_region 1 with (fail)
  go_cut [13] (fun v13 wc => ∃ (kq : Nat) (b : Bool), v13 = .bool b ∧ Aside0 (scheme_Valid.j0 kq l0 b = some r) ∧ Aside0 (Below w.heap.size w wc))
  case first =>
    have h := HH.out
    unfold scheme_Valid.f at h
    by_cases q1 : (l0.length : Int) > 16
    · rw [if_pos q1] at h
      have d1 : decide (16 < (l0.length : Int)) = true := decide_eq_true q1
      have HR' := Aside0.mk h
      clear h q1
      go_wp2
      go_meet
      case rel => exact ⟨_, true, by first | rfl | (simp; done) | (simp [d1]; done), HR', hB0⟩
    · rw [if_neg q1] at h
      have d1 : decide (16 < (l0.length : Int)) = false := decide_eq_false q1
      obtain ⟨nms, hm, h⟩ := Option.bind_eq_some_iff.mp h
      obtain ⟨b, hd, h⟩ := Option.bind_eq_some_iff.mp h
      have HMC := Aside0.mk (scheme_mapTableName.calls k A0 c0 l0 0 nms w HR.out hc0 hm)
      have HDC : Aside0 (∀ A c W, Kd.C Kd.string W A nms.length nms → nms.length ≤ c → Calls Tryz.prog 64 #[.slice A nms.length c] W fun e w' => e = .returned (.bool b) ∧ Below W.heap.size W w') := ⟨fun A c W hC hc => scheme_distinct_string.calls A c nms b W hC hc hd⟩
      have HR' := Aside0.mk h
      clear h q1 hm hd
      go_wp2_with (first | (go_at_call 75; refine HMC.out.mono ?_; rintro e w1 ⟨v, rfl, hv, hb1⟩; obtain ⟨A7, c7, e7⟩ := Kd.R_slice hv; subst e7) | (go_at_call 64; refine (HDC.out _ _ _ (Kd.R_reads' hv).2.2 (Kd.R_reads' hv).2.1).mono ?_; rintro e w2 ⟨rfl, hb2⟩))
      go_meet
      case rel => exact ⟨_, !b, by first | rfl | (simp; done), HR', ⟨below_step hb1 hb2⟩⟩
  case rest =>
    clear HH hB0
    obtain ⟨kq, b, rfl, HA, HB⟩ := hcut
    cases kq with
    | zero => exact absurd HA.out (by simp [scheme_Valid.j0])
    | succ k1 =>
      have h := HA.out
      clear HA
      simp only [scheme_Valid.j0] at h
      cases b with
      | true =>
        rw [if_pos rfl] at h
        obtain rfl := Option.some.inj h
        clear h
        go_wp2
        go_ret
        exact ⟨rfl, HB.out⟩
      | false =>
        rw [if_neg (by decide)] at h
        have HP := Aside0.mk h
        clear h
        go_wp2
        have HVT : Aside0 (∀ (k : Nat) (A : Option Addr) (c : Nat) (l : List S49) (x : S49) (A1 : Option Addr) (c1 : Nat) (A2 : Option Addr) (c2 : Nat) (A3 : Option Addr) (c3 : Nat) (A4 : Option Addr) (c4 : Nat) (b : Bool) (W : World), Below w.heap.size w W → Kd.C k49 W A l.length l → l.length ≤ c → Kd.C k78 W A1 x.f1.length x.f1 → x.f1.length ≤ c1 → Kd.C (Kd.slice 3 (Kd.int .i64)) W A2 x.f2.length x.f2 → x.f2.length ≤ c2 → Kd.C k75 W A3 x.f3.length x.f3 → x.f3.length ≤ c3 → Kd.C (Kd.int .i64) W A4 x.f4.length x.f4 → x.f4.length ≤ c4 → scheme_validTable.f k l x.f0 x.f1 x.f2 x.f3 x.f4 = some b →
            Calls Tryz.prog 77 #[.slice A l.length c, .agg #[.string x.f0, .slice A1 x.f1.length c1, .slice A2 x.f2.length c2, .slice A3 x.f3.length c3, .slice A4 x.f4.length c4]] W fun e w' => e = .returned (.bool b) ∧ Below W.heap.size W w') := ⟨fun k A c l x A1 c1 A2 c2 A3 c3 A4 c4 b W hW h0 g0 h1 g1 h2 g2 h3 g3 h4 g4 hf => scheme_validTable.calls k A c l _ A1 c1 _ A2 c2 _ A3 c3 _ A4 c4 _ b W h0 g0 h1 g1 h2 g2 h3 g3 h4 g4 hf (LaidL.below HL hW)⟩
        go_loopg [16] k1 (fun gk v16 wx => ∃ (i : Int), v16 = .int .i64 i ∧ Aside0 (Below w.heap.size w wx) ∧ Aside0 (scheme_Valid.l0 gk l0 l0 (l0.length : Int) i = some r))
        case atStart => exact ⟨0, rfl, HB, HP⟩
        case round =>
          clear HB HP
          obtain ⟨i, rfl, HW, HP⟩ := hrel
          cases gk with
          | zero => exact absurd HP.out (by simp [scheme_Valid.l0])
          | succ gk =>
            have hp := HP.out
            simp only [scheme_Valid.l0] at hp
            by_cases hii : i < (l0.length : Int)
            · rw [if_pos hii] at hp
              by_cases hi0 : 0 ≤ i
              case neg => rw [if_neg hi0] at hp; cases hp
              have hii2 : i ≤ (l0.length : Int) := by omega
              rw [if_pos hi0, if_pos hii, if_pos hii2] at hp
              obtain ⟨b, hv, hp2⟩ := Option.bind_eq_some_iff.mp hp
              clear hp HP
              have HP := Aside0.mk hp2
              clear hp2
              have hCw := Kd.C_below HR.out HW.out
              obtain ⟨ad, A1, c1, A2, c2, A3, c3, A4, c4, hA, hx0, hx1, hx2, hx3, hx4, g1, h1, g2, h2, g3, h3, g4, h4⟩ := at_T49 hCw i hi0 hii
              cases hA
              obtain ⟨i0_, hi0_, _, _, _⟩ := info_parts info72
              have hcut := cut_to (P := Tryz.prog) 23 72 .i64 Tryz.underlying23 hi0_ (some ad) l0.length c0 i hi0 hii2 hc0
              have hlen : (l0.take i.toNat).length = i.toNat := by rw [List.length_take]; omega
              have htk : Kd.C k49 wr (some ad) (l0.take i.toNat).length (l0.take i.toNat) := Kd.C_take (m := i.toNat) hCw (by omega)
              have HT := Aside0.mk htk
              generalize rd_T49 l0 i = x at *
              have HN : Aside0 (∀ W, Below wr.heap.size wr W → Calls Tryz.prog 77 #[.slice (some ad) i.toNat c0, .agg #[.string x.f0, .slice A1 x.f1.length c1, .slice A2 x.f2.length c2, .slice A3 x.f3.length c3, .slice A4 x.f4.length c4]] W fun e w' => e = .returned (.bool b) ∧ Below W.heap.size W w') := ⟨fun W hW => hlen ▸ HVT.out gk (some ad) c0 (l0.take i.toNat) x A1 c1 A2 c2 A3 c3 A4 c4 b W (below_step HW.out hW) (Kd.C_below htk hW) (by omega) (Kd.C_below h1 hW) g1 (Kd.C_below h2 hW) g2 (Kd.C_below h3 hW) g3 (Kd.C_below h4 hW) g4 hv⟩
              clear hv HVT h1 h2 h3 h4 g1 g2 g3 g4 hCw htk
              go_wp2
              obtain ⟨B, hB⟩ : ∃ B, B = wr.heap.size := ⟨_, rfl⟩
              obtain ⟨W1, hW1⟩ : ∃ W, W = wr.alloc (Obj.cells #[Value.string x.f0, Value.slice A1 x.f1.length c1, Value.slice A2 x.f2.length c2, Value.slice A3 x.f3.length c3, Value.slice A4 x.f4.length c4] 72) := ⟨_, rfl⟩
              have hBK : W1.heap[B]? = some (.cells #[Value.string x.f0, Value.slice A1 x.f1.length c1, Value.slice A2 x.f2.length c2, Value.slice A3 x.f3.length c3, Value.slice A4 x.f4.length c4] 72 (0, 0)) := by rw [hW1, hB]; exact Go.Deep.blk_alloc_new wr _
              have hBW : Below wr.heap.size wr W1 := by rw [hW1]; exact (Below.refl _ _).alloc (Nat.le_refl _) _
              rw [← hW1, ← hB]
              clear hW1 hB
              have c0_ := (blk_cell hBK 0).trans rfl
              have KB : ∀ W, (Below W1.heap.size W1 W) → W.cell? ⟨B, 0, none⟩ = some (Value.string x.f0) ∧ W.cell? ⟨B, 1, none⟩ = some (Value.slice A1 x.f1.length c1) ∧ W.cell? ⟨B, 2, none⟩ = some (Value.slice A2 x.f2.length c2) ∧ W.cell? ⟨B, 3, none⟩ = some (Value.slice A3 x.f3.length c3) ∧ W.cell? ⟨B, 4, none⟩ = some (Value.slice A4 x.f4.length c4) ∧ Below W1.heap.size W1 W := fun W hW => by
                have hh := (hW.block _ (blk_lt hBK)).trans hBK
                exact ⟨(blk_cell hh 0).trans rfl, (blk_cell hh 1).trans rfl, (blk_cell hh 2).trans rfl, (blk_cell hh 3).trans rfl, (blk_cell hh 4).trans rfl, hW⟩
              have hBB := Aside0.mk hBW
              clear hBK hBW c0_
              have KD := KB _ (below_drew1 (Below.refl _ _))
              refine start_ (n := 6) (S := fun w' => w'.cell? ⟨B, 0, none⟩ = some (Value.string x.f0) ∧ w'.cell? ⟨B, 1, none⟩ = some (Value.slice A1 x.f1.length c1) ∧ w'.cell? ⟨B, 2, none⟩ = some (Value.slice A2 x.f2.length c2) ∧ w'.cell? ⟨B, 3, none⟩ = some (Value.slice A3 x.f3.length c3) ∧ w'.cell? ⟨B, 4, none⟩ = some (Value.slice A4 x.f4.length c4) ∧ Below W1.heap.size W1 w') (ds := []) #[false, false, false, false, false, false] (by kernel_rfl) rfl rfl KD (fun hHeld => ?_)
              clear KD
              refine pure_ (i := 0) (N := some 21) (v := ?_) (a' := ?_) #[true, false, false, false, false, false] rfl rfl (by kernel_rfl) (fun _ _ _ h => h) (Or.inl ⟨by rfl, ?_⟩) ?_ ?_
              rotate_left
              · intro w'; go_simp; with_reducible rfl
              rotate_left
              · simp only [Act.put, List.setIfInBounds_toArray, List.set_cons_zero, List.set_cons_succ, i64_w, i32_w]; rfl
              refine pure_ (i := 1) (N := some 22) (v := ?_) (a' := ?_) #[true, true, false, false, false, false] rfl rfl (by kernel_rfl) (fun _ _ _ h => h) (Or.inl ⟨by rfl, ?_⟩) ?_ ?_
              rotate_left
              · intro w'; go_simp; with_reducible rfl
              rotate_left
              · simp only [Act.put, List.setIfInBounds_toArray, List.set_cons_zero, List.set_cons_succ, i64_w, i32_w]; rfl
              refine pure_ (i := 2) (N := some 23) (v := ?_) (a' := ?_) #[true, true, true, false, false, false] rfl rfl (by kernel_rfl) (fun _ _ _ h => h) (Or.inl ⟨by rfl, ?_⟩) ?_ ?_
              rotate_left
              · intro w'; go_simp; with_reducible rfl
              rotate_left
              · simp only [Act.put, List.setIfInBounds_toArray, List.set_cons_zero, List.set_cons_succ, i64_w, i32_w]; rfl
              refine take_ (i := 3) (N := some 24) (v := ?_) (a' := ?_) #[true, true, true, true, false, false] rfl rfl (by kernel_rfl) (fun _ _ _ h => h) (Or.inl ⟨by rfl, ?_⟩) hHeld ?_ ?_
              rotate_left
              · rintro w' ⟨s0, s1, s2, s3, s4, _⟩; go_simp; with_reducible rfl
              rotate_left
              · simp only [Act.put, List.setIfInBounds_toArray, List.set_cons_zero, List.set_cons_succ, i64_w, i32_w]; rfl
              refine one_ (i := 4) (N := some 25) #[true, true, true, true, true, false] rfl rfl (by kernel_rfl) (by decide) (fun K hK => ?_)
              refine goes_ Tryz.func77 (by kernel_rfl) rfl #[.slice (some ad) i.toNat c0, .agg #[.string x.f0, .slice A1 x.f1.length c1, .slice A2 x.f2.length c2, .slice A3 x.f3.length c3, .slice A4 x.f4.length c4]] (by rfl) rfl rfl (by (try simp only [List.map_toArray, List.map_cons, List.map_nil]); first | done | rfl) ?_
              have hWd := below_step hBB.out hHeld.2.2.2.2.2
              refine (HN.out _ hWd).mono ?_
              rintro e w1 ⟨rfl, hb1⟩
              refine ⟨_, rfl, ?_⟩
              refine hK.out _ _ (KB _ (below_step hHeld.2.2.2.2.2 hb1)) (fun hHeld2 => ?_)
              clear hK K
              refine norm_ (a' := ?_) ?_ ?_
              rotate_left
              · show Act.put _ (some 25) _ = _; simp only [Act.put, List.setIfInBounds_toArray, List.set_cons_zero, List.set_cons_succ, i64_w, i32_w]; rfl
              refine pure_ (i := 5) (N := some 26) (v := ?_) (a' := ?_) #[true, true, true, true, true, true] rfl rfl (by kernel_rfl) (fun _ _ _ h => h) (Or.inl ⟨by rfl, ?_⟩) ?_ ?_
              rotate_left
              · intro w'; go_simp; with_reducible rfl
              rotate_left
              · simp only [Act.put, List.setIfInBounds_toArray, List.set_cons_zero, List.set_cons_succ, i64_w, i32_w]; rfl
              refine done_ (by kernel_rfl) ?_
              have HW2 := Aside0.mk (below_step HW.out (below_step hWd hb1))
              clear hWd hb1 hHeld hHeld2 KB HN HT hcut
              cases b with
              | false =>
                have hp := HP.out
                rw [if_neg (by decide)] at hp
                obtain rfl := Option.some.inj hp
                clear hp
                go_wp2
                go_ret
                exact ⟨rfl, HW2.out⟩
              | true =>
                have hp := HP.out
                rw [if_pos rfl] at hp
                have HP2 := Aside0.mk hp
                clear hp
                go_wp2
                go_roundg gk
                case measure => omega
                case rel => exact ⟨wrap64 (i + 1), by first | rfl | (simp; done), HW2, HP2⟩
            · rw [if_neg hii] at hp
              obtain rfl := Option.some.inj hp
              clear hp HP HVT
              go_wp2
              go_ret
              exact ⟨rfl, HW.out⟩
end Go.Proofs.YthgfdnffnbclpaaGreatDoor.PAll
namespace Go.Proofs.YthgfdnffnbclpaaGreatDoor.PAll
open Go.RowKit Go.Proofs.YthgfdnffnbclpaaGreatDoorW.PrintWords Go.Proofs.YthgfdnffnbclpaaGreatDoorW.PrintLast Go.Proofs.YthgfdnffnbclpaaGreatDoorW.PrintMore

section
variable {α : Type} [DecidableEq α]
end
/-! #### references -/
def kindsG (tc oc : List S78) (all key : List Int) : Nat → Nat → Bool
  | 0, _ => true
  | g + 1, i => if rd all i < 0 then false else if rd all i ≥ (tc.length : Int) then false else if (rd_T78 tc (rd all i)).f1 = (rd_T78 oc (rd key i)).f1 then kindsG tc oc all key g (i + 1) else false
def refB (b : List S49) (tc : List S78) (r : S75) : Bool :=
  if r.f1 < 0 then false else if r.f1 ≥ (b.length : Int) then false else if r.f2 < 0 then false else if r.f2 ≥ ((rd_T49 b r.f1).f2.length : Int) then false else
    if (r.f0.length : Int) = ((rd_L6 (rd_T49 b r.f1).f2 r.f2).length : Int) then (kindsG tc (rd_T49 b r.f1).f1 r.f0 (rd_L6 (rd_T49 b r.f1).f2 r.f2) r.f0.length 0 && distP [] r.f0) else false
/-- All keys are in the columns. -/
def KeysIn (t : S49) : Prop := ∀ key ∈ t.f2, ∀ q ∈ key, 0 ≤ q ∧ q < (t.f1.length : Int)
def wfR (r : S75) : Prop := r.f0.length ≤ 9223372036854775807 ∧ r.f0.all (fun s => (Lit.int .i64 s).wf) = true
theorem rd_mem {l : List Int} {i : Nat} (h : i < l.length) : rd l (i : Int) ∈ l := by
  have : rd l (i : Int) = l[i] := by unfold rd; simp [List.getD, h]
  rw [this]; exact List.getElem_mem h
theorem rd_at {l : List Int} {i : Nat} (h : i < l.length) : rd l (i : Int) = l[i] := by unfold rd; simp [List.getD, h]
theorem rd49_take {s : List S49} {n : Nat} {i : Int} (h0 : 0 ≤ i) (h : i < (n : Int)) : rd_T49 (s.take n) i = rd_T49 s i := by
  unfold rd_T49
  rw [List.getD_eq_getElem?_getD, List.getD_eq_getElem?_getD, List.getElem?_take, if_pos (by omega)]
theorem rd49_mem {s : List S49} {i : Int} (h0 : 0 ≤ i) (h : i < (s.length : Int)) : rd_T49 s i ∈ s := by
  unfold rd_T49
  rw [List.getD_eq_getElem?_getD, List.getElem?_eq_getElem (by omega : i.toNat < s.length)]
  exact List.getElem_mem _
theorem rdL6_mem {s : List (List Int)} {i : Int} (h0 : 0 ≤ i) (h : i < (s.length : Int)) : rd_L6 s i ∈ s := by
  unfold rd_L6
  rw [List.getD_eq_getElem?_getD, List.getElem?_eq_getElem (by omega : i.toNat < s.length)]
  exact List.getElem_mem _
theorem validRef_l (b : List S49) (key all : List Int) (hl : key.length = all.length) (nm : ByteArray) (tc : List S78) (ks : List (List Int)) (rs : List S75) (ix cols : List Int) (t q : Int) (h1 : 0 ≤ t) (h2 : t < (b.length : Int)) (hk : ∀ q ∈ key, 0 ≤ q ∧ q < ((rd_T49 b t).f1.length : Int)) (hal : all.length ≤ 9223372036854775807) :
    ∀ (d i k : Nat), i + d = all.length → d < k → scheme_validRef.l0 k b key all (all.length : Int) (i : Int) nm tc ks rs ix cols t q = some (kindsG tc (rd_T49 b t).f1 all key d i) := by
  intro d
  induction d with
  | zero =>
    intro i k hi hk'
    obtain ⟨k, rfl⟩ : ∃ m, k = m + 1 := ⟨k - 1, by omega⟩
    rw [scheme_validRef.l0, if_neg (by omega)]; rfl
  | succ d ih =>
    intro i k hi hk'
    obtain ⟨k, rfl⟩ : ∃ m, k = m + 1 := ⟨k - 1, by omega⟩
    have hq := hk _ (rd_mem (l := key) (i := i) (by omega))
    rw [scheme_validRef.l0, if_pos (by omega), if_pos (by omega), if_pos (by omega), kindsG, w1 i (by omega), ih (i + 1) k (by omega) (by omega)]
    by_cases q1 : rd all (i : Int) < 0
    · rw [if_pos q1, if_pos q1]
    rw [if_neg q1, if_neg q1]
    by_cases q2 : rd all (i : Int) ≥ (tc.length : Int)
    · rw [if_pos q2, if_pos q2]
    rw [if_neg q2, if_neg q2, if_pos (by omega), if_pos (by omega), if_pos h1, if_pos h2, if_pos (by omega), if_pos hq.1, if_pos hq.2]
    by_cases q3 : (rd_T78 tc (rd all (i : Int))).f1 = (rd_T78 (rd_T49 b t).f1 (rd key (i : Int))).f1
    · rw [if_pos q3, if_pos q3]
    · rw [if_neg q3, if_neg q3]
theorem validRef_is (b : List S49) (hk : ∀ t ∈ b, KeysIn t) (nm : ByteArray) (tc : List S78) (ks : List (List Int)) (rs : List S75) (ix : List Int) (r : S75) (hr : wfR r) (k : Nat) (hkk : r.f0.length + 2 ≤ k) :
    scheme_validRef.f k b nm tc ks rs ix r.f0 r.f1 r.f2 = some (refB b tc r) := by
  obtain ⟨k, rfl⟩ : ∃ m, k = m + 1 := ⟨k - 1, by omega⟩
  unfold scheme_validRef.f refB
  by_cases q1 : r.f1 < 0
  · rw [if_pos q1, if_pos q1, scheme_validRef.j0, if_pos rfl]
  rw [if_neg q1, if_neg q1]
  by_cases q2 : r.f1 ≥ (b.length : Int)
  · rw [if_pos q2, if_pos q2, scheme_validRef.j0, if_pos rfl]
  rw [if_neg q2, if_neg q2]
  by_cases q3 : r.f2 < 0
  · rw [if_pos q3, if_pos q3, scheme_validRef.j0, if_pos rfl]
  rw [if_neg q3, if_neg q3, if_pos (by omega), if_pos (by omega)]
  by_cases q4 : r.f2 ≥ ((rd_T49 b r.f1).f2.length : Int)
  · rw [if_pos q4, if_pos q4, scheme_validRef.j0, if_pos rfl]
  rw [if_neg q4, if_neg q4, scheme_distinct_int.f, if_pos hr.2, Option.bind_some, scheme_validRef.j0]
  cases hd : distP [] r.f0 with
  | false =>
    rw [if_pos (by decide), Bool.and_false]
    split <;> rfl
  | true =>
    rw [if_neg (by decide), if_pos (by omega), if_pos (by omega), if_pos (by omega), if_pos (by omega), Bool.and_true]
    by_cases q5 : (r.f0.length : Int) = ((rd_L6 (rd_T49 b r.f1).f2 r.f2).length : Int)
    · rw [if_pos q5.symm, if_pos q5]
      exact validRef_l b _ r.f0 (by omega) nm tc ks rs ix r.f0 r.f1 r.f2 (by omega) (by omega) (hk _ (rd49_mem (by omega) (by omega)) _ (rdL6_mem (by omega) (by omega))) hr.1 r.f0.length 0 k (by omega) (by omega)
    · rw [if_neg (fun e => q5 e.symm), if_neg q5]

/-! #### tables -/
def wfT (t : S49) : Prop := t.f0.size ≤ 9223372036854775807 ∧ (∀ c ∈ t.f1, c.f0.size ≤ 9223372036854775807) ∧ (∀ key ∈ t.f2, key.length ≤ 9223372036854775807) ∧ (∀ r ∈ t.f3, wfR r) ∧ t.f4.length ≤ 9223372036854775807
def tabB (b : List S49) (t : S49) : Bool :=
  if nmB t.f0 = true then if (t.f1.length : Int) > 8 then false else if (t.f2.length : Int) > 4 then false else if (t.f3.length : Int) > 4 then false else
    risB t.f4 (t.f1.length : Int) && (distP [] (t.f1.map (·.f0)) && (t.f1.all colB && (keysB (t.f1.length : Int) t.f2 && t.f3.all (refB b t.f1))))
  else false
theorem mapCol_l (l : List S78) (h8 : l.length ≤ 8) : ∀ (d i k : Nat) (acc : List ByteArray), i + d = l.length → acc.length = i → d < k → scheme_mapColName.l0 k acc l (l.length : Int) (i : Int) = some (acc ++ (l.drop i).map (·.f0)) := by
  intro d
  induction d with
  | zero =>
    intro i k acc hi ha hk
    obtain ⟨k, rfl⟩ : ∃ m, k = m + 1 := ⟨k - 1, by omega⟩
    rw [scheme_mapColName.l0, if_neg (by omega), List.drop_eq_nil_of_le (by omega)]; simp
  | succ d ih =>
    intro i k acc hi ha hk
    obtain ⟨k, rfl⟩ : ∃ m, k = m + 1 := ⟨k - 1, by omega⟩
    rw [scheme_mapColName.l0, if_pos (by omega), if_pos (by omega), if_pos (by omega), scheme_validTable_1.f, Option.bind_some, if_pos (by omega), w1 i (by omega), ih (i + 1) k _ (by omega) (by simp; omega) (by omega)]
    rw [List.drop_eq_getElem_cons (by omega : i < l.length), List.map_cons, rdT78 (by omega)]
    simp
theorem mapTab_l (l : List S49) (h8 : l.length ≤ 16) : ∀ (d i k : Nat) (acc : List ByteArray), i + d = l.length → acc.length = i → d < k → scheme_mapTableName.l0 k acc l (l.length : Int) (i : Int) = some (acc ++ (l.drop i).map (·.f0)) := by
  intro d
  induction d with
  | zero =>
    intro i k acc hi ha hk
    obtain ⟨k, rfl⟩ : ∃ m, k = m + 1 := ⟨k - 1, by omega⟩
    rw [scheme_mapTableName.l0, if_neg (by omega), List.drop_eq_nil_of_le (by omega)]; simp
  | succ d ih =>
    intro i k acc hi ha hk
    obtain ⟨k, rfl⟩ : ∃ m, k = m + 1 := ⟨k - 1, by omega⟩
    rw [scheme_mapTableName.l0, if_pos (by omega), if_pos (by omega), if_pos (by omega), scheme_Valid_1.f, Option.bind_some, if_pos (by omega), w1 i (by omega), ih (i + 1) k _ (by omega) (by simp; omega) (by omega)]
    rw [List.drop_eq_getElem_cons (by omega : i < l.length), List.map_cons, rdT49 (by omega)]
    simp
theorem anyBad_is (b : List S49) (hk : ∀ t ∈ b, KeysIn t) (nm : ByteArray) (tc : List S78) (ks : List (List Int)) (rs : List S75) (ix : List Int) (l : List S75) (hl : l.length ≤ 4) (K : Nat) (hw : ∀ r ∈ l, wfR r ∧ r.f0.length + 2 ≤ K) :
    ∀ k, K + 10 ≤ k → scheme_anyBadRef.f k l b nm tc ks rs ix = some (!(l.all (refB b tc))) := by
  have key : ∀ (d i k : Nat), i + d = l.length → K + d < k → ∃ v : Int, scheme_idxBadRef.l0 k l b (l.length : Int) (i : Int) nm tc ks rs ix = some v ∧ decide (v ≥ 0) = !((l.drop i).all (refB b tc)) := by
    intro d
    induction d with
    | zero =>
      intro i k hi hk'
      obtain ⟨k, rfl⟩ : ∃ m, k = m + 1 := ⟨k - 1, by omega⟩
      exact ⟨-1, by rw [scheme_idxBadRef.l0, if_neg (by omega)], by rw [List.drop_eq_nil_of_le (by omega)]; rfl⟩
    | succ d ih =>
      intro i k hi hk'
      obtain ⟨k, rfl⟩ : ∃ m, k = m + 1 := ⟨k - 1, by omega⟩
      have hr := hw _ (List.getElem_mem (by omega : i < l.length))
      rw [scheme_idxBadRef.l0, if_pos (by omega), if_pos (by omega), if_pos (by omega), scheme_badRef.f, rdT75 (by omega), validRef_is b hk nm tc ks rs ix _ hr.1 k (by omega), Option.bind_some, Option.bind_some, List.drop_eq_getElem_cons (by omega : i < l.length), List.all_cons]
      cases hb : refB b tc l[i] with
      | false => exact ⟨_, by rw [if_pos (by decide)], by simp⟩
      | true =>
        rw [if_neg (by decide), w1 i (by omega), Bool.true_and]
        exact ih (i + 1) k (by omega) (by omega)
  intro k hk'
  obtain ⟨v, h1, h2⟩ := key l.length 0 k (by omega) (by omega)
  unfold scheme_anyBadRef.f scheme_idxBadRef.f
  rw [show ((0 : Nat) : Int) = (0 : Int) from rfl] at h1
  rw [h1, Option.bind_some, h2, List.drop_zero]
theorem keysB_all (n : Int) : ∀ l : List (List Int), keysB n l = l.all (keyB n)
  | [] => rfl
  | k :: r => by rw [keysB, List.all_cons, keysB_all n r]; cases keyB n k <;> rfl
theorem validTable_is (b : List S49) (hk : ∀ t ∈ b, KeysIn t) (t : S49) (hw : wfT t) : Ev (fun k => scheme_validTable.f k b t.f0 t.f1 t.f2 t.f3 t.f4) (tabB b t) := by
  obtain ⟨h0, h1, h2, h3, h4⟩ := hw
  obtain ⟨K, hK⟩ : ∃ K, ∀ r ∈ t.f3, r.f0.length + 2 ≤ K := by
    clear h1 h2 h3 h4
    induction t.f3 with
    | nil => exact ⟨0, fun r h => by cases h⟩
    | cons a l ih =>
      obtain ⟨K, h⟩ := ih
      exact ⟨K + a.f0.length + 2, fun r hr => by rcases List.mem_cons.1 hr with rfl | hr; omega; have := h r hr; omega⟩
  obtain ⟨M, hM⟩ : ∃ M, ∀ r ∈ t.f2, r.length < M := by
    clear h1 h2 h3 h4
    induction t.f2 with
    | nil => exact ⟨0, fun r h => by cases h⟩
    | cons a l ih =>
      obtain ⟨M, h⟩ := ih
      exact ⟨M + a.length + 1, fun r hr => by rcases List.mem_cons.1 hr with rfl | hr; omega; have := h r hr; omega⟩
  refine ⟨K + M + t.f4.length + 200, fun k hk' => ?_⟩
  obtain ⟨k, rfl⟩ : ∃ m, k = m + 1 := ⟨k - 1, by omega⟩
  show scheme_validTable.f (k + 1) b t.f0 t.f1 t.f2 t.f3 t.f4 = some (tabB b t)
  unfold scheme_validTable.f tabB
  rw [name_is _ _ (by omega), show Lx.isNm isKw t.f0.data.toList = nmB t.f0 from rfl, Option.bind_some]
  have hj : ∀ x, scheme_validTable.j0 (k + 1) b true t.f0 t.f1 t.f2 t.f3 t.f4 = some x ↔ x = false := fun x => by rw [scheme_validTable.j0, if_pos rfl]; simp [eq_comm]
  by_cases q0 : nmB t.f0 = true
  case neg => rw [if_neg q0, if_neg q0]; exact (hj _).2 rfl
  rw [if_pos q0, if_pos q0]
  by_cases q1 : (t.f1.length : Int) > 8
  · rw [if_pos q1, if_pos q1]; exact (hj _).2 rfl
  rw [if_neg q1, if_neg q1]
  by_cases q2 : (t.f2.length : Int) > 4
  · rw [if_pos q2, if_pos q2]; exact (hj _).2 rfl
  rw [if_neg q2, if_neg q2]
  by_cases q3 : (t.f3.length : Int) > 4
  · rw [if_pos q3, if_pos q3]; exact (hj _).2 rfl
  rw [if_neg q3, if_neg q3, rising_s t.f4 _ h4 (k + 1) (by omega), Option.bind_some]
  cases hr : risB t.f4 (t.f1.length : Int) with
  | false => rw [Bool.false_and]; exact (hj _).2 rfl
  | true =>
  have hm := mapCol_l t.f1 (by omega) t.f1.length 0 k [] (by omega) rfl (by omega)
  rw [show ((0 : Nat) : Int) = (0 : Int) from rfl, List.nil_append, List.drop_zero] at hm
  have hall : (t.f1.map (·.f0)).all (fun s => decide (s.size ≤ 9223372036854775807)) = true := by
    rw [List.all_eq_true]
    intro s hs
    obtain ⟨c, hc, rfl⟩ := List.mem_map.1 hs
    exact decide_eq_true (h1 c hc)
  rw [scheme_validTable.j0, if_neg (by decide), scheme_mapColName.f, if_pos (by omega), hm, Option.bind_some, scheme_distinct_string.f, if_pos hall, Option.bind_some, Bool.true_and]
  cases hd : distP [] (t.f1.map (·.f0)) with
  | false => rw [if_neg (by decide), Bool.false_and]
  | true =>
  rw [if_pos rfl, Bool.true_and]
  have l1 : ∀ (d i k : Nat), i + d = t.f2.length → K + M + d + 20 < k → scheme_validTable.l1 k b t.f2 (t.f2.length : Int) (i : Int) t.f0 t.f1 t.f2 t.f3 t.f4 = some ((t.f2.drop i).all (keyB (t.f1.length : Int)) && t.f3.all (refB b t.f1)) := by
    intro d
    induction d with
    | zero =>
      intro i k hi hk'
      obtain ⟨k, rfl⟩ : ∃ m, k = m + 1 := ⟨k - 1, by omega⟩
      rw [scheme_validTable.l1, if_neg (by omega), anyBad_is b hk t.f0 t.f1 t.f2 t.f3 t.f4 t.f3 (by omega) K (fun r hr => ⟨h3 r hr, hK r hr⟩) k (by omega), Option.bind_some, List.drop_eq_nil_of_le (by omega)]
      simp
    | succ d ih =>
      intro i k hi hk'
      obtain ⟨k, rfl⟩ : ∃ m, k = m + 1 := ⟨k - 1, by omega⟩
      have hmem := List.getElem_mem (by omega : i < t.f2.length)
      rw [scheme_validTable.l1, if_pos (by omega), if_pos (by omega), if_pos (by omega), rdL6 (by omega), List.drop_eq_getElem_cons (by omega : i < t.f2.length), List.all_cons, keyB]
      by_cases q : (t.f2[i].length : Int) = 0
      · rw [if_pos q, if_pos q, Bool.false_and, Bool.false_and]
      · rw [if_neg q, if_neg q, rising_s _ _ (h2 _ hmem) k (by have := hM _ hmem; omega), Option.bind_some, w1 i (by omega), ih (i + 1) k (by omega) (by omega)]
        cases risB t.f2[i] (t.f1.length : Int) <;> simp
  have l0 : ∀ (d i k : Nat), i + d = t.f1.length → K + M + d + 70 < k → scheme_validTable.l0 k b t.f1 (t.f1.length : Int) (i : Int) t.f0 t.f1 t.f2 t.f3 t.f4 = some ((t.f1.drop i).all colB && (t.f2.all (keyB (t.f1.length : Int)) && t.f3.all (refB b t.f1))) := by
    intro d
    induction d with
    | zero =>
      intro i k hi hk'
      obtain ⟨k, rfl⟩ : ∃ m, k = m + 1 := ⟨k - 1, by omega⟩
      have := l1 t.f2.length 0 k (by omega) (by omega)
      rw [show ((0 : Nat) : Int) = (0 : Int) from rfl, List.drop_zero] at this
      rw [scheme_validTable.l0, if_neg (by omega), this, List.drop_eq_nil_of_le (by omega)]
      simp
    | succ d ih =>
      intro i k hi hk'
      obtain ⟨k, rfl⟩ : ∃ m, k = m + 1 := ⟨k - 1, by omega⟩
      rw [scheme_validTable.l0, if_pos (by omega), if_pos (by omega), if_pos (by omega), col_s _ k (by omega), Option.bind_some, rdT78 (by omega), List.drop_eq_getElem_cons (by omega : i < t.f1.length), List.all_cons, w1 i (by omega), ih (i + 1) k (by omega) (by omega)]
      cases colB t.f1[i] <;> simp
  have := l0 t.f1.length 0 k (by omega) (by omega)
  rw [show ((0 : Nat) : Int) = (0 : Int) from rfl, List.drop_zero] at this
  rw [this, keysB_all]

/-! #### schemes -/
theorem ris_facts (l : List Int) (n : Int) : ∀ (d i : Nat), i + d = l.length → risG l n d i = true → ∀ j, i ≤ j → j < l.length → 0 ≤ rd l (j : Int) ∧ rd l (j : Int) < n ∧ (0 < j → rd l ((j - 1 : Nat) : Int) < rd l (j : Int)) := by
  intro d
  induction d with
  | zero => intro i hi _ j h1 h2; omega
  | succ d ih =>
    intro i hi h j h1 h2
    rw [risG] at h
    split at h
    · cases h
    split at h
    · cases h
    split at h
    · cases h
    rename_i q1 q2 q3
    by_cases e : j = i
    · subst e
      exact ⟨by omega, by omega, fun hp => by
        by_cases hh : rd l (j : Int) ≤ rd l ((j - 1 : Nat) : Int)
        · exact absurd ⟨hp, hh⟩ q3
        · omega⟩
    · exact ih (i + 1) (by omega) h j (by omega) h2
theorem risB_in {l : List Int} {n : Int} (h : risB l n = true) : ∀ q ∈ l, 0 ≤ q ∧ q < n := by
  intro q hq
  obtain ⟨j, hj, rfl⟩ := List.getElem_of_mem hq
  have := ris_facts l n l.length 0 (by omega) h j (by omega) hj
  rw [rd_at hj] at this
  exact ⟨this.1, this.2.1⟩
theorem risB_len {l : List Int} {n : Int} (h : risB l n = true) (hn : 0 ≤ n) : (l.length : Int) ≤ n := by
  have key : ∀ j, j < l.length → (j : Int) ≤ rd l (j : Int) := by
    intro j
    induction j with
    | zero => intro hj; have := (ris_facts l n l.length 0 (by omega) h 0 (by omega) hj).1; omega
    | succ j ih =>
      intro hj
      have h1 := ih (by omega)
      have h2 := (ris_facts l n l.length 0 (by omega) h (j + 1) (by omega) hj).2.2 (by omega)
      rw [show j + 1 - 1 = j by omega] at h2
      omega
  by_cases q : l.length = 0
  · omega
  · have h1 := key (l.length - 1) (by omega)
    have h2 := (ris_facts l n l.length 0 (by omega) h (l.length - 1) (by omega) (by omega)).2.1
    omega
theorem tabB_facts {b : List S49} {t : S49} (h : tabB b t = true) : t.f1.length ≤ 8 ∧ (∀ key ∈ t.f2, risB key (t.f1.length : Int) = true) ∧ (∀ r ∈ t.f3, refB b t.f1 r = true) := by
  unfold tabB at h
  split at h
  · split at h
    · cases h
    split at h
    · cases h
    split at h
    · cases h
    simp only [Bool.and_eq_true] at h
    obtain ⟨_, _, _, h4, h5⟩ := h
    refine ⟨by omega, fun key hk => ?_, fun r hr => List.all_eq_true.1 h5 r hr⟩
    rw [keysB_all] at h4
    have := List.all_eq_true.1 h4 key hk
    unfold keyB at this
    split at this
    · cases this
    · exact this
  · cases h
theorem tabB_keys {b : List S49} {t : S49} (h : tabB b t = true) : KeysIn t := fun key hk => risB_in ((tabB_facts h).2.1 key hk)
def tabsB (s : List S49) : Nat → Nat → Bool
  | 0, _ => true
  | g + 1, i => tabB (s.take i) (rd_T49 s (i : Int)) && tabsB s g (i + 1)
def validB (s : List S49) : Bool := decide (s.length ≤ 16) && (distP [] (s.map (·.f0)) && tabsB s s.length 0)
theorem take_keys {s : List S49} {i : Nat} (h : i < s.length) (hk : ∀ t ∈ s.take i, KeysIn t) (ht : KeysIn (rd_T49 s (i : Int))) : ∀ t ∈ s.take (i + 1), KeysIn t := by
  intro t hm
  rw [List.take_add_one, List.getElem?_eq_getElem h] at hm
  rcases List.mem_append.1 hm with hm | hm
  · exact hk t hm
  · have : t = s[i] := by simpa using hm
    rw [this, ← rdT49 h]; exact ht
theorem valid_l (s : List S49) (h16 : s.length ≤ 16) (hw : ∀ t ∈ s, wfT t) : ∀ (d i : Nat), i + d = s.length → (∀ t ∈ s.take i, KeysIn t) → Ev (fun k => scheme_Valid.l0 k s s (s.length : Int) (i : Int)) (tabsB s d i) := by
  intro d
  induction d with
  | zero =>
    intro i hi _
    refine ⟨1, fun k hk => ?_⟩
    obtain ⟨k, rfl⟩ : ∃ m, k = m + 1 := ⟨k - 1, by omega⟩
    show scheme_Valid.l0 (k + 1) s s (s.length : Int) (i : Int) = some (tabsB s 0 i)
    rw [scheme_Valid.l0, if_neg (by omega)]; rfl
  | succ d ih =>
    intro i hi hk
    have hlt : i < s.length := by omega
    obtain ⟨K1, h1⟩ := validTable_is (s.take i) hk (rd_T49 s (i : Int)) (by rw [rdT49 hlt]; exact hw _ (List.getElem_mem hlt))
    simp only at h1
    have step : ∀ k, scheme_Valid.l0 (k + 1) s s (s.length : Int) (i : Int) = (scheme_validTable.f k (s.take i) (rd_T49 s (i : Int)).f0 (rd_T49 s (i : Int)).f1 (rd_T49 s (i : Int)).f2 (rd_T49 s (i : Int)).f3 (rd_T49 s (i : Int)).f4).bind fun t => if t = true then scheme_Valid.l0 k s s (s.length : Int) ((i + 1 : Nat) : Int) else some false := fun k => by
      rw [scheme_Valid.l0, if_pos (by omega), if_pos (by omega), if_pos (by omega), if_pos (by omega), w1 i (by omega), Int.toNat_natCast]
    cases hb : tabB (s.take i) (rd_T49 s (i : Int)) with
    | false =>
      refine ⟨K1 + 1, fun k hk' => ?_⟩
      obtain ⟨k, rfl⟩ : ∃ m, k = m + 1 := ⟨k - 1, by omega⟩
      show scheme_Valid.l0 (k + 1) s s (s.length : Int) (i : Int) = some (tabsB s (d + 1) i)
      rw [step, h1 k (by omega), Option.bind_some, hb, if_neg (by decide), tabsB, hb]; rfl
    | true =>
      obtain ⟨K2, h2⟩ := ih (i + 1) (by omega) (take_keys hlt hk (tabB_keys hb))
      refine ⟨K1 + K2 + 1, fun k hk' => ?_⟩
      obtain ⟨k, rfl⟩ : ∃ m, k = m + 1 := ⟨k - 1, by omega⟩
      show scheme_Valid.l0 (k + 1) s s (s.length : Int) (i : Int) = some (tabsB s (d + 1) i)
      rw [step, h1 k (by omega), Option.bind_some, hb, if_pos rfl, tabsB, hb, Bool.true_and]
      exact h2 k (by omega)
theorem valid_is (s : List S49) (hw : ∀ t ∈ s, wfT t) : Ev (fun k => scheme_Valid.f k s) (validB s) := by
  unfold validB
  by_cases q : (s.length : Int) > 16
  · refine ⟨1, fun k hk => ?_⟩
    obtain ⟨k, rfl⟩ : ∃ m, k = m + 1 := ⟨k - 1, by omega⟩
    show scheme_Valid.f (k + 1) s = _
    unfold scheme_Valid.f
    rw [if_pos q, scheme_Valid.j0, if_pos rfl, decide_eq_false (by omega)]; rfl
  · obtain ⟨K, h⟩ := valid_l s (by omega) hw s.length 0 (by omega) (fun t h => by simp at h)
    refine ⟨K + s.length + 2, fun k hk => ?_⟩
    obtain ⟨k, rfl⟩ : ∃ m, k = m + 1 := ⟨k - 1, by omega⟩
    show scheme_Valid.f (k + 1) s = _
    have hm := mapTab_l s (by omega) s.length 0 (k + 1) [] (by omega) rfl (by omega)
    rw [show ((0 : Nat) : Int) = (0 : Int) from rfl, List.nil_append, List.drop_zero] at hm
    have hall : (s.map (·.f0)).all (fun s => decide (s.size ≤ 9223372036854775807)) = true := by
      rw [List.all_eq_true]
      intro x hs
      obtain ⟨c, hc, rfl⟩ := List.mem_map.1 hs
      exact decide_eq_true (hw c hc).1
    unfold scheme_Valid.f
    rw [if_neg q, scheme_mapTableName.f, if_pos (by omega), hm, Option.bind_some, scheme_distinct_string.f, if_pos hall, Option.bind_some, scheme_Valid.j0, decide_eq_true (by omega), Bool.true_and]
    cases hd : distP [] (s.map (·.f0)) with
    | false => rw [if_pos (by decide)]; rfl
    | true =>
      rw [if_neg (by decide), Bool.true_and]
      exact h k (by omega)

end Go.Proofs.YthgfdnffnbclpaaGreatDoor.PAll
