import Derived.Test.YthgfdnffnbclpaaDoorQV13
import Derived.Test.YthgfdnffnbclpaaDoorQV11
set_option linter.unusedVariables false
set_option linter.unusedSimpArgs false
namespace Go.Proofs.YthgfdnffnbclpaaDoor.PAll
open Go.RowKit Go.Proofs.YthgfdnffnbclpaaDoorW.PrintWords Go.Proofs.YthgfdnffnbclpaaDoorW.PrintLast Go.Proofs.YthgfdnffnbclpaaDoorW.PrintMore

/-! ### scheme_Valid: function 9 -/
mutual
def scheme_Valid.j0 : Nat → List (S49) → Bool → Option (Bool)
  | 0, _, _ => none
  | k + 1, x0, x13 => if x13 = true then (some false) else (scheme_Valid.l0 k x0 x0 (x0.length : Int) 0)
def scheme_Valid.l0 : Nat → List (S49) → List (S49) → Int → Int → Option (Bool)
  | 0, _, _, _, _ => none
  | k + 1, x0, x14, x15, x16 => if x16 < x15 then (if 0 ≤ x16 then (if x16 < (x14.length : Int) then (if x16 ≤ (x0.length : Int) then ((scheme_validTable.f k (x0.take (x16 : Int).toNat) ((rd_T49 x14 x16).f0) ((rd_T49 x14 x16).f1) ((rd_T49 x14 x16).f2) ((rd_T49 x14 x16).f3) ((rd_T49 x14 x16).f4)).bind fun t309 => (if t309 = true then (scheme_Valid.l0 k x0 x14 x15 (wrap64 (x16 + 1))) else (some false))) else (none)) else (none)) else (none)) else (some true)
end
def scheme_Valid.f (k : Nat) (l0 : List (S49)) : Option (Bool) := if (l0.length : Int) > 16 then (scheme_Valid.j0 k l0 true) else ((scheme_mapTableName.f k l0 0).bind fun t299 => ((scheme_distinct_string.f t299).bind fun t302 => (scheme_Valid.j0 k l0 (!t302))))
theorem scheme_Valid.mono_l : ∀ k, (∀ y0 y1, LeO (scheme_Valid.j0 k y0 y1) (scheme_Valid.j0 (k + 1) y0 y1)) ∧ (∀ y0 y1 y2 y3, LeO (scheme_Valid.l0 k y0 y1 y2 y3) (scheme_Valid.l0 (k + 1) y0 y1 y2 y3))
  | 0 => ⟨fun _ _ r h => by simp [scheme_Valid.j0] at h, fun _ _ _ _ r h => by simp [scheme_Valid.l0] at h⟩
  | k + 1 => by
    obtain ⟨ih0, ih1⟩ := scheme_Valid.mono_l k
    refine ⟨?_, ?_⟩
    · intro y0 y1
      unfold scheme_Valid.j0
      repeat' first
      | (with_reducible exact ih0 _ _)
      | (with_reducible exact ih1 _ _ _ _)
      | (with_reducible exact scheme_mapTableName.mono _ _ _)
      | (with_reducible exact scheme_validTable.mono _ _ _ _ _ _ _)
      | (with_reducible exact LeO.refl _)
      | (with_reducible exact LeO.none _)
      | (with_reducible refine LeO.ite ?_ ?_)
      | (with_reducible refine LeO.bind ?_ (fun _ => ?_))
      | exact ih0 _ _
      | exact ih1 _ _ _ _
      | exact scheme_mapTableName.mono _ _ _
      | exact scheme_validTable.mono _ _ _ _ _ _ _
      | exact LeO.none _
      | refine LeO.ite ?_ ?_
      | refine LeO.bind ?_ (fun _ => ?_)
    · intro y0 y1 y2 y3
      unfold scheme_Valid.l0
      repeat' first
      | (with_reducible exact ih0 _ _)
      | (with_reducible exact ih1 _ _ _ _)
      | (with_reducible exact scheme_mapTableName.mono _ _ _)
      | (with_reducible exact scheme_validTable.mono _ _ _ _ _ _ _)
      | (with_reducible exact LeO.refl _)
      | (with_reducible exact LeO.none _)
      | (with_reducible refine LeO.ite ?_ ?_)
      | (with_reducible refine LeO.bind ?_ (fun _ => ?_))
      | exact ih0 _ _
      | exact ih1 _ _ _ _
      | exact scheme_mapTableName.mono _ _ _
      | exact scheme_validTable.mono _ _ _ _ _ _ _
      | exact LeO.none _
      | refine LeO.ite ?_ ?_
      | refine LeO.bind ?_ (fun _ => ?_)
theorem scheme_Valid.mono : ∀ a0 k, LeO (scheme_Valid.f k a0) (scheme_Valid.f (k + 1) a0) := by
  intro a0 k
  obtain ⟨ih0, ih1⟩ := scheme_Valid.mono_l k
  unfold scheme_Valid.f
  repeat' first
      | exact ih0 _ _
      | exact ih1 _ _ _ _
      | exact scheme_mapTableName.mono _ _ _
      | exact LeO.refl _
      | refine LeO.ite ?_ ?_
      | refine LeO.bind ?_ (fun _ => ?_)

set_option maxHeartbeats 4000000 in
set_option maxRecDepth 100000 in
theorem scheme_Valid.calls (k : Nat) (A0 : Option Addr) (c0 : Nat) (l0 : List (S49)) (r : Bool) (w : World) (hr0 : Kd.C k49 w A0 l0.length l0) (hc0 : l0.length ≤ c0) (h : scheme_Valid.f k l0 = some r) (hL : LaidL w) :
    Calls Tryd.prog 9 #[.slice A0 l0.length c0] w fun e w' => e = .returned (.bool r) ∧ Below w.heap.size w w' := by
  have HR := Aside0.mk hr0
  have HL := Aside0.mk hL
  have HH := Aside0.mk h
  have hB0 := Aside0.mk (Below.refl w.heap.size w)
  have HLEN := Aside0.mk hr0.2.1
  clear hr0 hL h
  go_enter Tryd.func9, Tryd.ntmps9
  go_upto_region 1 with (fail)
  go_cut [13] (fun v13 wc => ∃ (kq : Nat) (b : Bool), v13 = .bool b ∧ Aside0 (scheme_Valid.j0 kq l0 b = some r) ∧ Aside0 (Below w.heap.size w wc))
  case first =>
    have h := HH.out
    unfold scheme_Valid.f at h
    by_cases q1 : (l0.length : Int) > 16
    · rw [if_pos q1] at h
      have d1 : decide (16 < (l0.length : Int)) = true := decide_eq_true q1
      have HR' := Aside0.mk h
      clear h q1
      go_wp2
      go_meet
      case rel => exact ⟨_, true, by first | rfl | (simp; done) | (simp [d1]; done), HR', hB0⟩
    · rw [if_neg q1] at h
      have d1 : decide (16 < (l0.length : Int)) = false := decide_eq_false q1
      obtain ⟨nms, hm, h⟩ := Option.bind_eq_some_iff.mp h
      obtain ⟨b, hd, h⟩ := Option.bind_eq_some_iff.mp h
      have HMC := Aside0.mk (scheme_mapTableName.calls k A0 c0 l0 0 nms w HR.out hc0 hm)
      have HDC : Aside0 (∀ A c W, Kd.C Kd.string W A nms.length nms → nms.length ≤ c → Calls Tryd.prog 23 #[.slice A nms.length c] W fun e w' => e = .returned (.bool b) ∧ Below W.heap.size W w') := ⟨fun A c W hC hc => scheme_distinct_string.calls A c nms b W hC hc hd⟩
      have HR' := Aside0.mk h
      clear h q1 hm hd
      go_wp2_with (first | (go_at_call 24; refine HMC.out.mono ?_; rintro e w1 ⟨v, rfl, hv, hb1⟩; obtain ⟨A7, c7, e7⟩ := Kd.R_slice hv; subst e7) | (go_at_call 23; refine (HDC.out _ _ _ (Kd.R_reads' hv).2.2 (Kd.R_reads' hv).2.1).mono ?_; rintro e w2 ⟨rfl, hb2⟩))
      go_meet
      case rel => exact ⟨_, !b, by first | rfl | (simp; done), HR', ⟨below_step hb1 hb2⟩⟩
  case rest =>
    clear HH hB0
    obtain ⟨kq, b, rfl, HA, HB⟩ := hcut
    cases kq with
    | zero => exact absurd HA.out (by simp [scheme_Valid.j0])
    | succ k1 =>
      have h := HA.out
      clear HA
      simp only [scheme_Valid.j0] at h
      cases b with
      | true =>
        rw [if_pos rfl] at h
        obtain rfl := Option.some.inj h
        clear h
        go_wp2
        go_ret
        exact ⟨rfl, HB.out⟩
      | false =>
        rw [if_neg (by decide)] at h
        have HP := Aside0.mk h
        clear h
        go_wp2
        have HVT : Aside0 (∀ (k : Nat) (A : Option Addr) (c : Nat) (l : List S49) (x : S49) (A1 : Option Addr) (c1 : Nat) (A2 : Option Addr) (c2 : Nat) (A3 : Option Addr) (c3 : Nat) (A4 : Option Addr) (c4 : Nat) (b : Bool) (W : World), Below w.heap.size w W → Kd.C k49 W A l.length l → l.length ≤ c → Kd.C k78 W A1 x.f1.length x.f1 → x.f1.length ≤ c1 → Kd.C (Kd.slice 3 (Kd.int .i64)) W A2 x.f2.length x.f2 → x.f2.length ≤ c2 → Kd.C k75 W A3 x.f3.length x.f3 → x.f3.length ≤ c3 → Kd.C (Kd.int .i64) W A4 x.f4.length x.f4 → x.f4.length ≤ c4 → scheme_validTable.f k l x.f0 x.f1 x.f2 x.f3 x.f4 = some b →
            Calls Tryd.prog 26 #[.slice A l.length c, .agg #[.string x.f0, .slice A1 x.f1.length c1, .slice A2 x.f2.length c2, .slice A3 x.f3.length c3, .slice A4 x.f4.length c4]] W fun e w' => e = .returned (.bool b) ∧ Below W.heap.size W w') := ⟨fun k A c l x A1 c1 A2 c2 A3 c3 A4 c4 b W hW h0 g0 h1 g1 h2 g2 h3 g3 h4 g4 hf => scheme_validTable.calls k A c l _ A1 c1 _ A2 c2 _ A3 c3 _ A4 c4 _ b W h0 g0 h1 g1 h2 g2 h3 g3 h4 g4 hf (LaidL.below HL hW)⟩
        go_loopg [16] k1 (fun gk v16 wx => ∃ (i : Int), v16 = .int .i64 i ∧ Aside0 (Below w.heap.size w wx) ∧ Aside0 (scheme_Valid.l0 gk l0 l0 (l0.length : Int) i = some r))
        case atStart => exact ⟨0, rfl, HB, HP⟩
        case round =>
          clear HB HP
          obtain ⟨i, rfl, HW, HP⟩ := hrel
          cases gk with
          | zero => exact absurd HP.out (by simp [scheme_Valid.l0])
          | succ gk =>
            have hp := HP.out
            simp only [scheme_Valid.l0] at hp
            by_cases hii : i < (l0.length : Int)
            · rw [if_pos hii] at hp
              by_cases hi0 : 0 ≤ i
              case neg => rw [if_neg hi0] at hp; cases hp
              have hii2 : i ≤ (l0.length : Int) := by omega
              rw [if_pos hi0, if_pos hii, if_pos hii2] at hp
              obtain ⟨b, hv, hp2⟩ := Option.bind_eq_some_iff.mp hp
              clear hp HP
              have HP := Aside0.mk hp2
              clear hp2
              have hCw := Kd.C_below HR.out HW.out
              obtain ⟨ad, A1, c1, A2, c2, A3, c3, A4, c4, hA, hx0, hx1, hx2, hx3, hx4, g1, h1, g2, h2, g3, h3, g4, h4⟩ := at_T49 hCw i hi0 hii
              cases hA
              obtain ⟨i0_, hi0_, _, _, _⟩ := info_parts info49
              have hcut := cut_to (P := Tryd.prog) 23 49 .i64 Tryd.underlying23 hi0_ (some ad) l0.length c0 i hi0 hii2 hc0
              have hlen : (l0.take i.toNat).length = i.toNat := by rw [List.length_take]; omega
              have htk : Kd.C k49 wr (some ad) (l0.take i.toNat).length (l0.take i.toNat) := Kd.C_take (m := i.toNat) hCw (by omega)
              have HT := Aside0.mk htk
              generalize rd_T49 l0 i = x at *
              have HN : Aside0 (∀ W, Below wr.heap.size wr W → Calls Tryd.prog 26 #[.slice (some ad) i.toNat c0, .agg #[.string x.f0, .slice A1 x.f1.length c1, .slice A2 x.f2.length c2, .slice A3 x.f3.length c3, .slice A4 x.f4.length c4]] W fun e w' => e = .returned (.bool b) ∧ Below W.heap.size W w') := ⟨fun W hW => hlen ▸ HVT.out gk (some ad) c0 (l0.take i.toNat) x A1 c1 A2 c2 A3 c3 A4 c4 b W (below_step HW.out hW) (Kd.C_below htk hW) (by omega) (Kd.C_below h1 hW) g1 (Kd.C_below h2 hW) g2 (Kd.C_below h3 hW) g3 (Kd.C_below h4 hW) g4 hv⟩
              clear hv HVT h1 h2 h3 h4 g1 g2 g3 g4 hCw htk
              go_wp2
              obtain ⟨B, hB⟩ : ∃ B, B = wr.heap.size := ⟨_, rfl⟩
              obtain ⟨W1, hW1⟩ : ∃ W, W = wr.alloc (Obj.cells #[Value.string x.f0, Value.slice A1 x.f1.length c1, Value.slice A2 x.f2.length c2, Value.slice A3 x.f3.length c3, Value.slice A4 x.f4.length c4] 49) := ⟨_, rfl⟩
              have hBK : W1.heap[B]? = some (.cells #[Value.string x.f0, Value.slice A1 x.f1.length c1, Value.slice A2 x.f2.length c2, Value.slice A3 x.f3.length c3, Value.slice A4 x.f4.length c4] 49 (0, 0)) := by rw [hW1, hB]; exact Go.Deep.blk_alloc_new wr _
              have hBW : Below wr.heap.size wr W1 := by rw [hW1]; exact (Below.refl _ _).alloc (Nat.le_refl _) _
              rw [← hW1, ← hB]
              clear hW1 hB
              have c0_ := (blk_cell hBK 0).trans rfl
              have KB : ∀ W, (Below W1.heap.size W1 W) → W.cell? ⟨B, 0, none⟩ = some (Value.string x.f0) ∧ W.cell? ⟨B, 1, none⟩ = some (Value.slice A1 x.f1.length c1) ∧ W.cell? ⟨B, 2, none⟩ = some (Value.slice A2 x.f2.length c2) ∧ W.cell? ⟨B, 3, none⟩ = some (Value.slice A3 x.f3.length c3) ∧ W.cell? ⟨B, 4, none⟩ = some (Value.slice A4 x.f4.length c4) ∧ Below W1.heap.size W1 W := fun W hW => by
                have hh := (hW.block _ (blk_lt hBK)).trans hBK
                exact ⟨(blk_cell hh 0).trans rfl, (blk_cell hh 1).trans rfl, (blk_cell hh 2).trans rfl, (blk_cell hh 3).trans rfl, (blk_cell hh 4).trans rfl, hW⟩
              have hBB := Aside0.mk hBW
              clear hBK hBW c0_
              have KD := KB _ (below_drew1 (Below.refl _ _))
              refine start_ (n := 6) (S := fun w' => w'.cell? ⟨B, 0, none⟩ = some (Value.string x.f0) ∧ w'.cell? ⟨B, 1, none⟩ = some (Value.slice A1 x.f1.length c1) ∧ w'.cell? ⟨B, 2, none⟩ = some (Value.slice A2 x.f2.length c2) ∧ w'.cell? ⟨B, 3, none⟩ = some (Value.slice A3 x.f3.length c3) ∧ w'.cell? ⟨B, 4, none⟩ = some (Value.slice A4 x.f4.length c4) ∧ Below W1.heap.size W1 w') (ds := []) #[false, false, false, false, false, false] (by kernel_rfl) rfl rfl KD (fun hHeld => ?_)
              clear KD
              refine pure_ (i := 0) (N := some 21) (v := ?_) (a' := ?_) #[true, false, false, false, false, false] rfl rfl (by kernel_rfl) (fun _ _ _ h => h) (Or.inl ⟨by rfl, ?_⟩) ?_ ?_
              rotate_left
              · intro w'; go_simp; with_reducible rfl
              rotate_left
              · simp only [Act.put, List.setIfInBounds_toArray, List.set_cons_zero, List.set_cons_succ, i64_w, i32_w]; rfl
              refine pure_ (i := 1) (N := some 22) (v := ?_) (a' := ?_) #[true, true, false, false, false, false] rfl rfl (by kernel_rfl) (fun _ _ _ h => h) (Or.inl ⟨by rfl, ?_⟩) ?_ ?_
              rotate_left
              · intro w'; go_simp; with_reducible rfl
              rotate_left
              · simp only [Act.put, List.setIfInBounds_toArray, List.set_cons_zero, List.set_cons_succ, i64_w, i32_w]; rfl
              refine pure_ (i := 2) (N := some 23) (v := ?_) (a' := ?_) #[true, true, true, false, false, false] rfl rfl (by kernel_rfl) (fun _ _ _ h => h) (Or.inl ⟨by rfl, ?_⟩) ?_ ?_
              rotate_left
              · intro w'; go_simp; with_reducible rfl
              rotate_left
              · simp only [Act.put, List.setIfInBounds_toArray, List.set_cons_zero, List.set_cons_succ, i64_w, i32_w]; rfl
              refine take_ (i := 3) (N := some 24) (v := ?_) (a' := ?_) #[true, true, true, true, false, false] rfl rfl (by kernel_rfl) (fun _ _ _ h => h) (Or.inl ⟨by rfl, ?_⟩) hHeld ?_ ?_
              rotate_left
              · rintro w' ⟨s0, s1, s2, s3, s4, _⟩; go_simp; with_reducible rfl
              rotate_left
              · simp only [Act.put, List.setIfInBounds_toArray, List.set_cons_zero, List.set_cons_succ, i64_w, i32_w]; rfl
              refine one_ (i := 4) (N := some 25) #[true, true, true, true, true, false] rfl rfl (by kernel_rfl) (by decide) (fun K hK => ?_)
              refine goes_ Tryd.func26 (by kernel_rfl) rfl #[.slice (some ad) i.toNat c0, .agg #[.string x.f0, .slice A1 x.f1.length c1, .slice A2 x.f2.length c2, .slice A3 x.f3.length c3, .slice A4 x.f4.length c4]] (by rfl) rfl rfl (by (try simp only [List.map_toArray, List.map_cons, List.map_nil]); first | done | rfl) ?_
              have hWd := below_step hBB.out hHeld.2.2.2.2.2
              refine (HN.out _ hWd).mono ?_
              rintro e w1 ⟨rfl, hb1⟩
              refine ⟨_, rfl, ?_⟩
              refine hK.out _ _ (KB _ (below_step hHeld.2.2.2.2.2 hb1)) (fun hHeld2 => ?_)
              clear hK K
              refine norm_ (a' := ?_) ?_ ?_
              rotate_left
              · show Act.put _ (some 25) _ = _; simp only [Act.put, List.setIfInBounds_toArray, List.set_cons_zero, List.set_cons_succ, i64_w, i32_w]; rfl
              refine pure_ (i := 5) (N := some 26) (v := ?_) (a' := ?_) #[true, true, true, true, true, true] rfl rfl (by kernel_rfl) (fun _ _ _ h => h) (Or.inl ⟨by rfl, ?_⟩) ?_ ?_
              rotate_left
              · intro w'; go_simp; with_reducible rfl
              rotate_left
              · simp only [Act.put, List.setIfInBounds_toArray, List.set_cons_zero, List.set_cons_succ, i64_w, i32_w]; rfl
              refine done_ (by kernel_rfl) ?_
              have HW2 := Aside0.mk (below_step HW.out (below_step hWd hb1))
              clear hWd hb1 hHeld hHeld2 KB HN HT hcut
              cases b with
              | false =>
                have hp := HP.out
                rw [if_neg (by decide)] at hp
                obtain rfl := Option.some.inj hp
                clear hp
                go_wp2
                go_ret
                exact ⟨rfl, HW2.out⟩
              | true =>
                have hp := HP.out
                rw [if_pos rfl] at hp
                have HP2 := Aside0.mk hp
                clear hp
                go_wp2
                go_roundg gk
                case measure => omega
                case rel => exact ⟨wrap64 (i + 1), by first | rfl | (simp; done), HW2, HP2⟩
            · rw [if_neg hii] at hp
              obtain rfl := Option.some.inj hp
              clear hp HP HVT
              go_wp2
              go_ret
              exact ⟨rfl, HW.out⟩
end Go.Proofs.YthgfdnffnbclpaaDoor.PAll
namespace Go.Proofs.YthgfdnffnbclpaaDoor.PAll
open Go.RowKit Go.Proofs.YthgfdnffnbclpaaDoorW.PrintWords Go.Proofs.YthgfdnffnbclpaaDoorW.PrintLast Go.Proofs.YthgfdnffnbclpaaDoorW.PrintMore

def rowsFitP (t : S49) : List (List S64) → Bool
  | [] => true
  | row :: r => if fitsRowP t.f1 row = 0 then rowsFitP t r else false
def dataFitP : List S49 → List (List (List S64)) → Bool
  | t :: s, rows :: d => if (rows.length : Int) > 1000 then false else if rowsFitP t rows = true then dataFitP s d else false
  | _, _ => true
def holdsP (s : List S49) (d : List (List (List S64))) : Nat → List (List (List S64)) → Option Bool
  | _, [] => some true
  | n, rows :: r => (keysP rows (rd_T49 s n).f2).bind fun a => if a = true then (refsP s d n (rd_T49 s n).f3).bind fun b => if b = true then holdsP s d (n + 1) r else some false else some false
def dataP (k : Nat) (s : List S49) (d : List (List (List S64))) : Option Bool :=
  (scheme_Valid.f k s).bind fun v => if v = true then (if d.length = s.length then (if dataFitP s d = true then holdsP s d 0 d else some false) else some false) else some false

set_option maxHeartbeats 4000000 in
set_option maxRecDepth 100000 in
theorem validData_walk (k : Nat) (A0 : Option Addr) (c0 : Nat) (s : List S49) (A1 : Option Addr) (c1 : Nat) (d : List (List (List S64))) (r : Bool) (w : World)
    (hS : Kd.C k49 w A0 s.length s) (hc0 : s.length ≤ c0) (hD : Kd.C (Kd.slice 51 (Kd.slice 64 k64)) w A1 d.length d) (hc1 : d.length ≤ c1) (hwf : ∀ rows ∈ d, ∀ row ∈ rows, ∀ x ∈ row, wfV x) (hL : LaidL w) (h : dataP k s d = some r) :
    Calls Tryd.prog 10 #[.slice A0 s.length c0, .slice A1 d.length c1] w fun e w' => e = .returned (.bool r) ∧ Below w.heap.size w w' := by
  have HS := Aside0.mk hS
  have HD := Aside0.mk hD
  have HWF := Aside0.mk hwf
  have HB0 := Aside0.mk (Below.refl w.heap.size w)
  unfold dataP at h
  obtain ⟨v, hv, h⟩ := Option.bind_eq_some_iff.mp h
  have HV := Aside0.mk (scheme_Valid.calls k A0 c0 s v w hS hc0 hv hL)
  have HH := Aside0.mk h
  clear hS hD hwf hL h hv
  go_enter Tryd.func10, Tryd.ntmps10
  cases v with
  | false =>
    have h := HH.out
    rw [if_neg (by decide)] at h
    obtain rfl := Option.some.inj h
    clear h
    go_wp2_with (go_at_call 9; refine HV.out.mono ?_; rintro e w1 ⟨rfl, hb1⟩)
    go_ret
    exact ⟨rfl, hb1⟩
  | true =>
    have h := HH.out
    rw [if_pos rfl] at h
    by_cases q : d.length = s.length
    case neg =>
      rw [if_neg q] at h
      obtain rfl := Option.some.inj h
      have qi : ¬ ((d.length : Int) = (s.length : Int)) := by omega
      have d1 : ((d.length : Int) == (s.length : Int)) = false := beq_eq_false_iff_ne.mpr qi
      have d2 : ((d.length : Int) != (s.length : Int)) = true := bne_iff_ne.mpr qi
      clear h HH q qi
      go_wp2_with (go_at_call 9; refine HV.out.mono ?_; rintro e w1 ⟨rfl, hb1⟩)
      go_ret
      exact ⟨rfl, hb1⟩
    rw [if_pos q] at h
    have qi : ((d.length : Int) = (s.length : Int)) := by omega
    have d1 : ((d.length : Int) == (s.length : Int)) = true := beq_iff_eq.mpr qi
    have d2 : ((d.length : Int) != (s.length : Int)) = false := by rw [bne, d1]; rfl
    have HQ := Aside0.mk q
    have HP := Aside0.mk h
    clear h HH q qi
    go_wp2_with (go_at_call 9; refine HV.out.mono ?_; rintro e w1 ⟨rfl, hb1⟩)
    have HB1 := Aside0.mk hb1
    clear hb1 d1 d2 HV HB0
    go_loopg [23] d.length (fun gk v23 wx => ∃ (n : Nat), n + gk = d.length ∧ v23 = .int .i64 n ∧ Aside0 (Below w.heap.size w wx) ∧ Aside0 ((if dataFitP (s.drop n) (d.drop n) = true then holdsP s d 0 d else some false) = some r))
    case atStart => exact ⟨0, by omega, rfl, HB1, by simpa using HP⟩
    case round =>
      clear HB1 HP
      obtain ⟨n, hn, rfl, HW, HP⟩ := hrel
      cases gk with
      | succ gk =>
        have hlt : n < d.length := by omega
        have hlts : n < s.length := by have := HQ.out; omega
        have hii : (n : Int) < (d.length : Int) := by omega
        have his : (n : Int) < (s.length : Int) := by omega
        have hi0 : (0 : Int) ≤ (n : Int) := by omega
        have hdr : d.drop n = d[n] :: d.drop (n + 1) := List.drop_eq_getElem_cons hlt
        have hds : s.drop n = s[n] :: s.drop (n + 1) := List.drop_eq_getElem_cons hlts
        have hrd : rd_L13 d (n : Int) = d[n] := by unfold rd_L13; simp [List.getD, hlt]
        have hrs : rd_T49 s (n : Int) = s[n] := by unfold rd_T49; simp [List.getD, hlts]
        obtain ⟨ad, Ar, cr, hA, hx, hcr, hCr⟩ := at_L13 HD.out (n : Int) hi0 hii
        cases hA
        rw [hrd] at hx hcr hCr
        rw [Int.toNat_natCast] at hx
        replace hx := (HW.out.cell (World.block_lt_of_cell? w _ hx)).trans hx
        have hp := HP.out
        rw [hdr, hds, dataFitP] at hp
        generalize d[n] = rows at *
        have HCR := Aside0.mk hCr
        by_cases q : (rows.length : Int) > 1000
        · rw [if_pos q, if_neg (by decide)] at hp
          obtain rfl := Option.some.inj hp
          have d1 : decide (1000 < (rows.length : Int)) = true := decide_eq_true q
          clear hp HP q hCr
          go_wp2
          go_ret
          exact ⟨rfl, HW.out⟩
        rw [if_neg q] at hp
        have d1 : decide (1000 < (rows.length : Int)) = false := decide_eq_false q
        obtain ⟨at_, A1, c1_, A2, c2, A3, c3, A4, c4, hAt, hy0, hy1, hy2, hy3, hy4, g1, h1, g2, h2, g3, h3, g4, h4⟩ := at_T49 HS.out (n : Int) hi0 his
        cases hAt
        rw [hrs] at hy0 hy1 hy2 hy3 hy4 g1 h1 g2 h2 g3 h3 g4 h4
        rw [Int.toNat_natCast] at hy0 hy1 hy2 hy3 hy4
        generalize s[n] = t at *
        have HF : Aside0 (∀ (A : Option Addr) (c : Nat) (row : List S64) (W : World), Below w.heap.size w W → Kd.C k64 W A row.length row → row.length ≤ c → Calls Tryd.prog 27 #[.agg #[.string t.f0, .slice A1 t.f1.length c1_, .slice A2 t.f2.length c2, .slice A3 t.f3.length c3, .slice A4 t.f4.length c4], .slice A row.length c] W fun e w' => e = .returned (.int .i64 (fitsRowP t.f1 row)) ∧ Below W.heap.size W w') := ⟨fun A c row W hW hC hc => fitsRow_walk t.f0 A1 c1_ t.f1 A2 _ c2 A3 _ c3 A4 _ c4 A c row W (Kd.C_below h1 hW) g1 hC hc⟩
        have HY : Aside0 (∀ W, Below w.heap.size w W → W.cell? (at_.add (n * 5)) = some (.string t.f0) ∧ W.cell? ⟨(at_.add (n * 5)).block, (at_.add (n * 5)).off + 1, none⟩ = some (.slice A1 t.f1.length c1_) ∧ W.cell? ⟨(at_.add (n * 5)).block, (at_.add (n * 5)).off + 2, none⟩ = some (.slice A2 t.f2.length c2) ∧ W.cell? ⟨(at_.add (n * 5)).block, (at_.add (n * 5)).off + 3, none⟩ = some (.slice A3 t.f3.length c3) ∧ W.cell? ⟨(at_.add (n * 5)).block, (at_.add (n * 5)).off + 4, none⟩ = some (.slice A4 t.f4.length c4)) := ⟨fun W hB =>
          ⟨(hB.cell (World.block_lt_of_cell? w _ hy0)).trans hy0, (hB.cell (World.block_lt_of_cell? w _ hy1)).trans hy1, (hB.cell (World.block_lt_of_cell? w _ hy2)).trans hy2, (hB.cell (World.block_lt_of_cell? w _ hy3)).trans hy3, (hB.cell (World.block_lt_of_cell? w _ hy4)).trans hy4⟩⟩
        have HP1 : Aside0 ((if rowsFitP t rows = true then (if dataFitP (s.drop (n + 1)) (d.drop (n + 1)) = true then holdsP s d 0 d else some false) else some false) = some r) := ⟨by
          rw [← hp]
          by_cases q1 : rowsFitP t rows = true
          · rw [if_pos q1, if_pos q1]
          · rw [if_neg q1, if_neg q1, if_neg (by decide)]⟩
        clear hp HP q hCr hy0 hy1 hy2 hy3 hy4 g1 h1 g2 h2 g3 h3 g4 h4 hdr hds hrd hrs
        go_wp2
        clear hx d1
        go_loopg [33] rows.length (fun gj v33 wx => ∃ (j : Nat), j + gj = rows.length ∧ v33 = .int .i64 j ∧ Aside0 (Below w.heap.size w wx) ∧ Aside0 ((if rowsFitP t (rows.drop j) = true then (if dataFitP (s.drop (n + 1)) (d.drop (n + 1)) = true then holdsP s d 0 d else some false) else some false) = some r))
        case atStart => exact ⟨0, by omega, rfl, HW, by simpa using HP1⟩
        case round =>
          clear HW HP1
          obtain ⟨j, hj, rfl, HW, HP⟩ := hrel
          rename_i gk1
          cases gk with
          | zero =>
            have e : rows.drop j = [] := List.drop_eq_nil_of_le (by omega)
            have hp := HP.out
            rw [e, rowsFitP, if_pos rfl] at hp
            have HP2 := Aside0.mk hp
            have hjj : ¬ (j : Int) < (rows.length : Int) := by omega
            clear hp HP
            go_wp2
            go_roundg gk
            case measure => omega
            case rel => exact ⟨n + 1, by omega, by first | rfl | (simp; done) | (have := HD.out.2.1; simp; unfold wrap64; omega), HW, HP2⟩
          | succ gk =>
            have hjlt : j < rows.length := by omega
            have hjj : (j : Int) < (rows.length : Int) := by omega
            have hj0 : (0 : Int) ≤ (j : Int) := by omega
            have hdrj : rows.drop j = rows[j] :: rows.drop (j + 1) := List.drop_eq_getElem_cons hjlt
            have hrdj : rd_L12 rows (j : Int) = rows[j] := by unfold rd_L12; simp [List.getD, hjlt]
            obtain ⟨adr, Aw, cw, hAw, hxw, hcw, hCw⟩ := at_L12 HCR.out (j : Int) hj0 hjj
            cases hAw
            rw [hrdj] at hxw hcw hCw
            rw [Int.toNat_natCast] at hxw
            replace hxw := (HW.out.cell (World.block_lt_of_cell? w _ hxw)).trans hxw
            have hp := HP.out
            rw [hdrj, rowsFitP] at hp
            generalize rows[j] = row at *
            obtain ⟨y0, y1, y2, y3, y4⟩ := HY.out wr HW.out
            have HN := Aside0.mk (HF.out Aw cw row wr HW.out (Kd.C_below hCw HW.out) hcw)
            by_cases q : fitsRowP t.f1 row = 0
            · rw [if_pos q] at hp
              have HP2 := Aside0.mk hp
              have d1 : (fitsRowP t.f1 row == 0) = true := beq_iff_eq.mpr q
              have d2 : (fitsRowP t.f1 row != 0) = false := by rw [bne, d1]; rfl
              clear hp q HP hCw hrdj hdrj HF HY
              go_wp2_with (go_at_call 27; refine HN.out.mono ?_; rintro e w1 ⟨rfl, hb1⟩)
              go_roundg gk
              case measure => omega
              case rel => exact ⟨j + 1, by omega, by first | rfl | (simp; done) | (have := HCR.out.2.1; simp; unfold wrap64; omega), ⟨below_step HW.out hb1⟩, HP2⟩
            · rw [if_neg q, if_neg (by decide)] at hp
              obtain rfl := Option.some.inj hp
              have d1 : (fitsRowP t.f1 row == 0) = false := beq_eq_false_iff_ne.mpr q
              have d2 : (fitsRowP t.f1 row != 0) = true := by rw [bne, d1]; rfl
              clear hp q HP hCw hrdj hdrj HF HY
              go_wp2_with (go_at_call 27; refine HN.out.mono ?_; rintro e w1 ⟨rfl, hb1⟩)
              go_ret
              exact ⟨rfl, below_step HW.out hb1⟩
      | zero =>
        have e : d.drop n = [] := List.drop_eq_nil_of_le (by omega)
        have hp := HP.out
        have hfit : dataFitP (s.drop n) [] = true := by cases s.drop n <;> rfl
        rw [e, hfit, if_pos rfl] at hp
        have HP2 := Aside0.mk hp
        have hii : ¬ (n : Int) < (d.length : Int) := by omega
        clear hp HP e hfit
        go_wp2
        clear hii hn
        go_loopg [48] d.length (fun gk v48 wx => ∃ (n : Nat), n + gk = d.length ∧ v48 = .int .i64 n ∧ Aside0 (Below w.heap.size w wx) ∧ Aside0 (holdsP s d n (d.drop n) = some r))
        case atStart => exact ⟨0, by omega, rfl, HW, by simpa using HP2⟩
        case round =>
          clear HW HP2
          obtain ⟨n, hn, rfl, HW, HP⟩ := hrel
          rename_i gk1
          cases gk with
          | zero =>
            have e : d.drop n = [] := List.drop_eq_nil_of_le (by omega)
            have hp := HP.out
            rw [e, holdsP] at hp
            obtain rfl := Option.some.inj hp
            have hii : ¬ (n : Int) < (d.length : Int) := by omega
            clear hp HP e
            go_wp2
            go_ret
            exact ⟨rfl, HW.out⟩
          | succ gk =>
            have hlt : n < d.length := by omega
            have hlts : n < s.length := by have := HQ.out; omega
            have hii : (n : Int) < (d.length : Int) := by omega
            have his : (n : Int) < (s.length : Int) := by omega
            have hi0 : (0 : Int) ≤ (n : Int) := by omega
            have hdr : d.drop n = d[n] :: d.drop (n + 1) := List.drop_eq_getElem_cons hlt
            have hrd : rd_L13 d (n : Int) = d[n] := by unfold rd_L13; simp [List.getD, hlt]
            have hmem : d[n] ∈ d := List.getElem_mem hlt
            obtain ⟨ad, Ar, cr, hA, hx, hcr, hCr⟩ := at_L13 HD.out (n : Int) hi0 hii
            cases hA
            rw [hrd] at hx hcr hCr
            rw [Int.toNat_natCast] at hx
            replace hx := (HW.out.cell (World.block_lt_of_cell? w _ hx)).trans hx
            have hp := HP.out
            rw [hdr, holdsP] at hp
            have hwr := HWF.out d[n] hmem
            clear hmem
            generalize d[n] = rows at *
            obtain ⟨a, ha, hp⟩ := Option.bind_eq_some_iff.mp hp
            obtain ⟨at_, A1, c1_, A2, c2, A3, c3, A4, c4, hAt, y0, y1, y2, y3, y4, g1, h1, g2, h2, g3, h3, g4, h4⟩ := at_T49 HS.out (n : Int) hi0 his
            cases hAt
            rw [Int.toNat_natCast] at y0 y1 y2 y3 y4
            replace y0 := (HW.out.cell (World.block_lt_of_cell? w _ y0)).trans y0
            replace y1 := (HW.out.cell (World.block_lt_of_cell? w _ y1)).trans y1
            replace y2 := (HW.out.cell (World.block_lt_of_cell? w _ y2)).trans y2
            replace y3 := (HW.out.cell (World.block_lt_of_cell? w _ y3)).trans y3
            replace y4 := (HW.out.cell (World.block_lt_of_cell? w _ y4)).trans y4
            have HN := Aside0.mk (keysHold_walk (rd_T49 s n).f0 A1 c1_ (rd_T49 s n).f1.length A2 c2 (rd_T49 s n).f2 A3 c3 (rd_T49 s n).f3.length A4 c4 (rd_T49 s n).f4.length Ar cr rows a wr (Kd.C_below h2 HW.out) g2 (Kd.C_below hCr HW.out) hcr hwr ha)
            have HP1 := Aside0.mk hp
            clear hp HP hCr g1 h1 g2 h2 g3 h3 g4 h4 hdr hrd hwr ha
            cases a with
            | false =>
              have hp := HP1.out
              rw [if_neg (by decide)] at hp
              obtain rfl := Option.some.inj hp
              clear hp HP1
              generalize rd_T49 s n = t at *
              go_wp2_with (go_at_call 28; refine HN.out.mono ?_; rintro e w1 ⟨rfl, hb1⟩)
              go_ret
              exact ⟨rfl, below_step HW.out hb1⟩
            | true =>
              have hp := HP1.out
              rw [if_pos rfl] at hp
              obtain ⟨b, hb, hp⟩ := Option.bind_eq_some_iff.mp hp
              have HR2 : Aside0 (∀ W, Below w.heap.size w W → Calls Tryd.prog 29 #[.slice (some at_) s.length c0, .slice (some ad) d.length c1, .int .i64 n] W fun e w' => e = .returned (.bool b) ∧ Below W.heap.size W w') := ⟨fun W hW => refsHold_walk (some at_) c0 s (some ad) c1 d n b W (Kd.C_below HS.out hW) hc0 (Kd.C_below HD.out hW) hc1 HWF.out hi0 his hii hb⟩
              have HP2 := Aside0.mk hp
              clear hp HP1 hb
              generalize rd_T49 s n = t at *
              cases b with
              | false =>
                have hp := HP2.out
                rw [if_neg (by decide)] at hp
                obtain rfl := Option.some.inj hp
                clear hp HP2
                go_wp2_with (first | (go_at_call 28; refine HN.out.mono ?_; rintro e w1 ⟨rfl, hb1⟩) | (go_at_call 29; refine (HR2.out _ (below_step HW.out hb1)).mono ?_; rintro e w2 ⟨rfl, hb2⟩))
                go_ret
                exact ⟨rfl, below_step (below_step HW.out hb1) hb2⟩
              | true =>
                have hp := HP2.out
                rw [if_pos rfl] at hp
                have HP3 := Aside0.mk hp
                clear hp HP2
                go_wp2_with (first | (go_at_call 28; refine HN.out.mono ?_; rintro e w1 ⟨rfl, hb1⟩) | (go_at_call 29; refine (HR2.out _ (below_step HW.out hb1)).mono ?_; rintro e w2 ⟨rfl, hb2⟩))
                go_roundg gk
                case measure => omega
                case rel => exact ⟨n + 1, by omega, by first | rfl | (simp; done) | (have := HD.out.2.1; simp; unfold wrap64; omega), ⟨below_step (below_step HW.out hb1) hb2⟩, HP3⟩
end Go.Proofs.YthgfdnffnbclpaaDoor.PAll
namespace Go.Proofs.YthgfdnffnbclpaaDoor.PAll
open Go.RowKit Go.Proofs.YthgfdnffnbclpaaDoorW.PrintWords Go.Proofs.YthgfdnffnbclpaaDoorW.PrintLast Go.Proofs.YthgfdnffnbclpaaDoorW.PrintMore

def refRefsP (s : List S49) (d : List (List (List S64))) (n : Nat) : List S75 → Option Bool
  | [] => some true
  | r :: l => if 0 ≤ r.f1 ∧ r.f1 < (s.length : Int) ∧ r.f1 < (d.length : Int) ∧ 0 ≤ r.f2 ∧ r.f2 < ((rd_T49 s r.f1).f2.length : Int) then
      (rhP r.f0 (rd_L13 d r.f1) (rd_L6 (rd_T49 s r.f1).f2 r.f2) (rd_L13 d n)).bind fun b => if b = true then refRefsP s d n l else some false
    else none

set_option maxHeartbeats 4000000 in
set_option maxRecDepth 100000 in
theorem refRefs_walk (A0 : Option Addr) (c0 : Nat) (s : List S49) (A1 : Option Addr) (c1 : Nat) (d : List (List (List S64))) (n : Nat) (r : Bool) (w : World)
    (hS : Kd.C k49 w A0 s.length s) (hc0 : s.length ≤ c0) (hD : Kd.C (Kd.slice 51 (Kd.slice 64 k64)) w A1 d.length d) (hc1 : d.length ≤ c1) (hn : n < s.length) (hnd : n < d.length) (h : refRefsP s d n (rd_T49 s n).f3 = some r) :
    Calls Tryd.prog 22 #[.slice A0 s.length c0, .slice A1 d.length c1, .int .i64 n] w fun e w' => e = .returned (.bool r) ∧ Below w.heap.size w w' := by
  have hn0 : (0 : Int) ≤ (n : Int) := by omega
  have hn1 : (n : Int) < (s.length : Int) := by omega
  have hn2 : (n : Int) < (d.length : Int) := by omega
  have HS := Aside0.mk hS
  have HD := Aside0.mk hD
  obtain ⟨an, N1, n1, N2, n2, N3, n3, N4, n4, hAn, hz0, hz1, hz2, hz3, hz4, m1, l1_, m2, l2_, m3, l3_, m4, l4_⟩ := at_T49 hS (n : Int) hn0 hn1
  cases hAn
  obtain ⟨ad, Ar, cr, had, hx, hcr, hCr⟩ := at_L13 hD (n : Int) hn0 hn2
  cases had
  rw [Int.toNat_natCast] at hz3 hx
  have HH : Aside0 (refRefsP s d n ((rd_T49 s n).f3.drop 0) = some r) := ⟨by simpa using h⟩
  generalize rd_T49 s (n : Int) = t at *
  have L3 := Aside0.mk l3_
  have hlen := l3_.2.1
  have HRN : Aside0 (rd_L13 d (n : Int) = rd_L13 d (n : Int)) := ⟨rfl⟩
  obtain ⟨rows, hrows⟩ : ∃ rows, rows = rd_L13 d (n : Int) := ⟨_, rfl⟩
  rw [← hrows] at hx hcr hCr
  have HRW := Aside0.mk hrows
  have LR := Aside0.mk hCr
  have KX : Aside0 (∀ W, Below w.heap.size w W → W.cell? ⟨(an.add (n * 5)).block, (an.add (n * 5)).off + 3, none⟩ = some (.slice N3 t.f3.length n3) ∧ W.cell? (ad.add n) = some (.slice Ar rows.length cr)) := ⟨fun W hW =>
    ⟨(hW.cell (World.block_lt_of_cell? w _ hz3)).trans hz3, (hW.cell (World.block_lt_of_cell? w _ hx)).trans hx⟩⟩
  clear hS hD h hz0 hz1 hz2 hz3 hz4 l1_ l2_ l3_ l4_ hx hCr hrows HRN
  go_enter Tryd.func22, Tryd.ntmps22
  go_wp2
  go_loopg [7] t.f3.length (fun gk v7 wx => ∃ (i : Nat), i + gk = t.f3.length ∧ v7 = .int .i64 i ∧ Aside0 (Below w.heap.size w wx) ∧ Aside0 (refRefsP s d n (t.f3.drop i) = some r))
  case atStart => exact ⟨0, by omega, rfl, ⟨Below.refl _ _⟩, HH⟩
  case round =>
    clear HH
    obtain ⟨i, hi, rfl, HW, HP⟩ := hrel
    obtain ⟨x0, x1⟩ := KX.out wr HW.out
    cases gk with
    | zero =>
      have hp := HP.out
      rw [List.drop_eq_nil_of_le (by omega), refRefsP] at hp
      obtain rfl := Option.some.inj hp
      have hii : ¬ (i : Int) < (t.f3.length : Int) := by omega
      clear hp HP
      go_wp2
      go_ret
      exact ⟨rfl, HW.out⟩
    | succ gi =>
      have hii : (i : Int) < (t.f3.length : Int) := by omega
      have hi0 : (0 : Int) ≤ (i : Int) := by omega
      obtain ⟨ar, Ac, cc, hAr, u0, u1, u2, hcc, hCc⟩ := at_T75 L3.out (i : Int) hi0 hii
      cases hAr
      rw [Int.toNat_natCast] at u0 u1 u2
      have hp := HP.out
      rw [List.drop_eq_getElem_cons (by omega), refRefsP, ← rdT75 (by omega)] at hp
      clear HP
      generalize rd_T75 t.f3 (i : Int) = rf at *
      by_cases q : 0 ≤ rf.f1 ∧ rf.f1 < (s.length : Int) ∧ rf.f1 < (d.length : Int) ∧ 0 ≤ rf.f2 ∧ rf.f2 < ((rd_T49 s rf.f1).f2.length : Int)
      case neg => rw [if_neg q] at hp; cases hp
      rw [if_pos q] at hp
      obtain ⟨q1, q2, q3, q4, q5⟩ := q
      obtain ⟨at_, _, _, T2, t2, _, _, _, _, hAt, _, _, y2, _, _, _, _, g2, h2, _⟩ := at_T49 HS.out rf.f1 q1 q2
      cases hAt
      obtain ⟨ad2, Ao, co, had2, hxo, hco, hCo⟩ := at_L13 HD.out rf.f1 q1 q3
      cases had2
      rw [← HRW.out] at hp
      generalize rd_T49 s rf.f1 = tt at *
      obtain ⟨ak, Ak, ck, hAk, hk, hck, hCk⟩ := at_L6 h2 rf.f2 q4 q5
      cases hAk
      generalize rd_L6 tt.f2 rf.f2 = key at *
      generalize rd_L13 d rf.f1 = others at *
      obtain ⟨b, hb, hp⟩ := Option.bind_eq_some_iff.mp hp
      replace u0 := (HW.out.cell (World.block_lt_of_cell? w _ u0)).trans u0
      replace u1 := (HW.out.cell (World.block_lt_of_cell? w _ u1)).trans u1
      replace u2 := (HW.out.cell (World.block_lt_of_cell? w _ u2)).trans u2
      have HN : Aside0 (∀ W, Below w.heap.size w W → Calls Tryd.prog 44 #[.slice Ar rows.length cr, .slice Ac rf.f0.length cc, .slice Ao others.length co, .slice Ak key.length ck] W fun e w' => e = .returned (.bool b) ∧ Below W.heap.size W w') := ⟨fun W hW => refHolds_walk Ar cr rows Ac cc rf.f0 Ao co others Ak ck key b W (Kd.C_below LR.out hW) hcr (Kd.C_below hCc hW) hcc (Kd.C_below hCo hW) hco (Kd.C_below hCk hW) hck hb⟩
      have KY : ∀ W, Below w.heap.size w W → W.cell? (ad.add n) = some (.slice Ar rows.length cr) ∧ W.cell? (ad.add rf.f1.toNat) = some (.slice Ao others.length co) ∧ W.cell? ⟨(an.add (rf.f1.toNat * 5)).block, (an.add (rf.f1.toNat * 5)).off + 2, none⟩ = some (.slice (some ak) tt.f2.length t2) ∧ W.cell? (ak.add rf.f2.toNat) = some (.slice Ak key.length ck) := fun W hW =>
        ⟨(KX.out W hW).2, (hW.cell (World.block_lt_of_cell? w _ hxo)).trans hxo, (hW.cell (World.block_lt_of_cell? w _ y2)).trans y2, (hW.cell (World.block_lt_of_cell? w _ hk)).trans hk⟩
      have HY := Aside0.mk KY
      have HP := Aside0.mk hp
      clear hp hb hCc hCo hCk hk hxo y2 h2 KY
      go_wp2
      obtain ⟨B, hB⟩ : ∃ B, B = wr.heap.size := ⟨_, rfl⟩
      obtain ⟨W1, hW1⟩ : ∃ W, W = wr.alloc (Obj.cells #[Value.slice Ac rf.f0.length cc, Value.int IntKind.i64 rf.f1, Value.int IntKind.i64 rf.f2] 75) := ⟨_, rfl⟩
      have hb5 : W1.heap[B]? = some (.cells #[Value.slice Ac rf.f0.length cc, Value.int IntKind.i64 rf.f1, Value.int IntKind.i64 rf.f2] 75 (0, 0)) := by rw [hW1, hB]; exact Go.Deep.blk_alloc_new wr _
      have hBW : Below w.heap.size w W1 := by rw [hW1]; exact below_step HW.out ((Below.refl _ _).alloc (Nat.le_refl _) _)
      rw [← hW1, ← hB]
      clear hW1 hB u0 u1 u2 x0 x1
      have KS : ∀ W, Below W1.heap.size W1 W → W.cell? (ad.add n) = some (.slice Ar rows.length cr) ∧ W.cell? (ad.add rf.f1.toNat) = some (.slice Ao others.length co) ∧ W.cell? ⟨(an.add (rf.f1.toNat * 5)).block, (an.add (rf.f1.toNat * 5)).off + 2, none⟩ = some (.slice (some ak) tt.f2.length t2) ∧ W.cell? (ak.add rf.f2.toNat) = some (.slice Ak key.length ck) ∧ W.cell? ⟨B, 0, none⟩ = some (.slice Ac rf.f0.length cc) ∧ W.cell? ⟨B, 1, none⟩ = some (.int .i64 rf.f1) ∧ W.cell? ⟨B, 2, none⟩ = some (.int .i64 rf.f2) := fun W hW => by
        have h5 := (hW.block _ (blk_lt hb5)).trans hb5
        obtain ⟨z0, z1, z2, z3⟩ := HY.out W (below_step hBW hW)
        exact ⟨z0, z1, z2, z3, (blk_cell h5 0).trans rfl, (blk_cell h5 1).trans rfl, (blk_cell h5 2).trans rfl⟩
      have HBW := Aside0.mk hBW
      clear hBW hb5
      go_region_held3 (fun W => W.cell? (ad.add n) = some (.slice Ar rows.length cr) ∧ W.cell? (ad.add rf.f1.toNat) = some (.slice Ao others.length co) ∧ W.cell? ⟨(an.add (rf.f1.toNat * 5)).block, (an.add (rf.f1.toNat * 5)).off + 2, none⟩ = some (.slice (some ak) tt.f2.length t2) ∧ W.cell? (ak.add rf.f2.toNat) = some (.slice Ak key.length ck) ∧ W.cell? ⟨B, 0, none⟩ = some (.slice Ac rf.f0.length cc) ∧ W.cell? ⟨B, 1, none⟩ = some (.int .i64 rf.f1) ∧ W.cell? ⟨B, 2, none⟩ = some (.int .i64 rf.f2)) (first | exact KS _ (below_drew1 (Below.refl _ _)) | exact KS _ (below_step (below_drew1 (Below.refl _ _)) hb1)) ((go_at_call 44; refine (HN.out _ (below_drew1 HBW.out)).mono ?_; rintro e w1 ⟨rfl, hb1⟩))
      have HW2 := Aside0.mk (below_step (below_drew1 HBW.out) hb1)
      clear hb1 KS
      cases b with
      | false =>
        have hp := HP.out
        rw [if_neg (by decide)] at hp
        obtain rfl := Option.some.inj hp
        clear hp
        go_wp2
        go_ret
        exact ⟨rfl, HW2.out⟩
      | true =>
        have hp := HP.out
        rw [if_pos rfl] at hp
        have HP2 := Aside0.mk hp
        clear hp
        go_wp2
        go_roundg gi
        case measure => omega
        case rel => exact ⟨i + 1, by omega, ret_n (by omega), HW2, HP2⟩

theorem val_r (x : S64) (h : wfV x) : jointerref01_Valid.f x.f0 x.f1 x.f2 = some (valP x) := by
  obtain ⟨_, h1, _⟩ := h
  have hr : -9223372036854775808 ≤ x.f1 ∧ x.f1 ≤ 9223372036854775807 := by
    unfold Lit.wf at h1
    simp only [Bool.and_eq_true, decide_eq_true_eq] at h1
    exact ⟨h1.1, h1.2⟩
  unfold jointerref01_Valid.f valP
  by_cases q0 : x.f0 = 0
  · rw [if_pos q0, if_pos q0]
    by_cases e : x.f1 = 0
    · rw [if_pos e, beq_iff_eq.mpr e, Bool.true_and]
    · rw [if_neg e, beq_eq_false_iff_ne.mpr e, Bool.false_and]
  rw [if_neg q0, if_neg q0]
  by_cases q1 : x.f0 = 1
  · rw [if_pos q1, if_pos q1]
  rw [if_neg q1, if_neg q1]
  by_cases q2 : x.f0 = 2
  · rw [if_pos q2, if_pos q2]
    by_cases e : x.f1 = 0
    · rw [if_pos e, beq_iff_eq.mpr e, Bool.true_and]
    · rw [if_neg e, beq_eq_false_iff_ne.mpr e, Bool.false_and]
  rw [if_neg q2, if_neg q2]
  by_cases q3 : x.f0 = 3
  · rw [if_pos q3, if_pos q3]
    have hw : IntKind.u64.wrap x.f1 = x.f1 % 18446744073709551616 := by
      unfold IntKind.wrap
      simp [IntKind.signed, IntKind.bits]
    rw [hw]
    by_cases e0 : x.f1 = 0
    · rw [if_pos e0, e0, show decide ((0 : Int) % 18446744073709551616 ≤ 1) = true by decide, Bool.and_true]
    · rw [if_neg e0]
      by_cases e1 : x.f1 = 1
      · rw [if_pos e1, e1, show decide ((1 : Int) % 18446744073709551616 ≤ 1) = true by decide, Bool.and_true]
      · rw [if_neg e1, decide_eq_false (by omega), Bool.and_false]
  · rw [if_neg q3, if_neg q3]
theorem fits_r (c : S78) (x : S64) (h : wfV x) (k : Nat) : jointerref07_Fits.f (k + 1) c.f0 c.f1 c.f2 c.f3 c.f4 x.f0 x.f1 x.f2 = some (fitsP c x) := by
  unfold jointerref07_Fits.f fitsP
  rw [val_r x h, Option.bind_some]
  cases valP x with
  | false => rw [if_neg (by decide), if_neg (by decide), jointerref07_Fits.j0, if_pos rfl]
  | true =>
    rw [if_pos rfl, if_pos rfl]
    by_cases q0 : x.f0 = 0
    · rw [if_pos q0, if_pos (beq_iff_eq.mpr q0), jointerref07_Fits.j0, if_neg (by decide), if_pos q0]
      split <;> rfl
    rw [if_neg q0, if_neg (by simpa using q0)]
    by_cases q1 : x.f0 = c.f1
    · rw [if_pos (beq_iff_eq.mpr q1), jointerref07_Fits.j0, if_neg (by simp [q1]), if_neg q0, jointerref07_InRange.f, ← q1]
      by_cases e1 : x.f0 = 1
      · rw [if_pos e1, if_pos (beq_iff_eq.mpr e1)]
        by_cases e2 : c.f3 ≤ x.f1
        · rw [if_pos e2, if_neg (by simp; omega), Option.bind_some]
          by_cases e3 : x.f1 ≤ c.f4
          · rw [decide_eq_true e3, if_pos rfl, if_neg (by simp; omega)]
          · rw [decide_eq_false e3, if_neg (by decide), if_pos (by simp; omega)]
        · rw [if_neg e2, if_pos (by simp; omega), Option.bind_some, if_neg (by decide)]
      have e1b : ¬ (x.f0 == 1) = true := by simpa using e1
      rw [if_neg e1, if_neg e1b]
      by_cases e2 : x.f0 = 2
      · rw [if_pos e2, if_pos (beq_iff_eq.mpr e2), Option.bind_some]
        by_cases e3 : (x.f2.size : Int) ≤ c.f4
        · rw [decide_eq_true e3, if_pos rfl, if_neg (by simp; omega)]
        · rw [decide_eq_false e3, if_neg (by decide), if_pos (by simp; omega)]
      · have e2b : ¬ (x.f0 == 2) = true := by simpa using e2
        rw [if_neg e2, if_neg e2b, Option.bind_some, if_pos rfl]
    · rw [if_neg (by simpa using q1), jointerref07_Fits.j0, if_pos (by simpa using q1)]

theorem fitsL_drop (cols : List S78) (row : List S64) (i : Nat) (h : i < row.length) (hl : row.length = cols.length) :
    fitsL (cols.drop i) (row.drop i) = if fitsP (rd_T78 cols i) (rd_T64 row i) = 0 then fitsL (cols.drop (i + 1)) (row.drop (i + 1)) else fitsP (rd_T78 cols i) (rd_T64 row i) := by
  rw [List.drop_eq_getElem_cons h, List.drop_eq_getElem_cons (by omega : i < cols.length), fitsL, rdT78 (by omega)]
  have : rd_T64 row (i : Int) = row[i] := by unfold rd_T64; simp [List.getD, h]
  rw [this]

set_option maxHeartbeats 4000000 in
set_option maxRecDepth 100000 in
theorem refFitsRow_walk (a0 : ByteArray) (A1 : Option Addr) (c1 : Nat) (cols : List S78) (A2 : Option Addr) (n2 c2 : Nat) (A3 : Option Addr) (n3 c3 : Nat) (A4 : Option Addr) (n4 c4 : Nat) (A : Option Addr) (c : Nat) (row : List S64) (w : World)
    (h1 : Kd.C k78 w A1 cols.length cols) (hc1 : cols.length ≤ c1) (hR : Kd.C k64 w A row.length row) (hc : row.length ≤ c) (hwf : ∀ x ∈ row, wfV x) :
    Calls Tryd.prog 20 #[.agg #[.string a0, .slice A1 cols.length c1, .slice A2 n2 c2, .slice A3 n3 c3, .slice A4 n4 c4], .slice A row.length c] w fun e w' => e = .returned (.int .i64 (fitsRowP cols row)) ∧ Below w.heap.size w w' := by
  have H1 := Aside0.mk h1
  have HR := Aside0.mk hR
  have hlen := hR.2.1
  have HWF := Aside0.mk hwf
  have HFT : Aside0 (∀ (c : S78) (x : S64) (W : World), wfV x → Calls Tryd.prog 42 #[.agg #[.string c.f0, .int .u8 c.f1, .bool c.f2, .int .i64 c.f3, .int .i64 c.f4], .agg #[.int .u8 x.f0, .int .i64 x.f1, .string x.f2]] W fun e w' => e = .returned (.int .i64 (fitsP c x)) ∧ Below W.heap.size W w') := ⟨fun c x W hx => jointerref07_Fits.calls 1 _ _ _ _ _ _ _ _ _ W (fits_r c x hx 0)⟩
  clear h1 hR hwf
  obtain ⟨r, hr⟩ : ∃ r, r = fitsRowP cols row := ⟨_, rfl⟩
  rw [← hr]
  unfold fitsRowP at hr
  have HH := Aside0.mk hr
  clear hr
  go_enter Tryd.func20, Tryd.ntmps20
  go_upto_region 1 with (fail)
  obtain ⟨B, hB⟩ : ∃ B, B = w.heap.size := ⟨_, rfl⟩
  obtain ⟨W1, hW1⟩ : ∃ W, W = w.alloc (Obj.cells #[.string a0, .slice A1 cols.length c1, .slice A2 n2 c2, .slice A3 n3 c3, .slice A4 n4 c4] 49) := ⟨_, rfl⟩
  have hb5 : W1.heap[B]? = some (.cells #[.string a0, .slice A1 cols.length c1, .slice A2 n2 c2, .slice A3 n3 c3, .slice A4 n4 c4] 49 (0, 0)) := by rw [hW1, hB]; exact Go.Deep.blk_alloc_new w _
  have hBW : Below w.heap.size w W1 := by rw [hW1]; exact (Below.refl _ _).alloc (Nat.le_refl _) _
  rw [← hW1, ← hB]
  clear hW1 hB
  have KB : Aside0 (∀ W, Below W1.heap.size W1 W → W.cell? ⟨B, 1, none⟩ = some (Value.slice A1 cols.length c1)) := ⟨fun W hW => (blk_cell ((hW.block _ (blk_lt hb5)).trans hb5) 1).trans rfl⟩
  have HBW := Aside0.mk hBW
  clear hb5 hBW
  have x1 := KB.out W1 (Below.refl _ _)
  by_cases q : row.length = cols.length
  case neg =>
    have h := HH.out
    rw [if_neg q] at h
    subst h
    have q' : ¬ (row.length : Int) = (cols.length : Int) := by omega
    have e1 : ((row.length : Int) == (cols.length : Int)) = false := beq_eq_false_iff_ne.mpr q'
    have e2 : ((row.length : Int) != (cols.length : Int)) = true := by rw [bne, e1]; rfl
    clear q q' HH
    go_wp2
    go_ret
    exact ⟨rfl, HBW.out⟩
  have h := HH.out
  rw [if_pos q] at h
  have q' : (row.length : Int) = (cols.length : Int) := by omega
  have e1 : ((row.length : Int) == (cols.length : Int)) = true := beq_iff_eq.mpr q'
  have e2 : ((row.length : Int) != (cols.length : Int)) = false := by rw [bne, e1]; rfl
  have HP : Aside0 (r = fitsL (cols.drop 0) (row.drop 0)) := ⟨by simpa using h⟩
  have HQ := Aside0.mk q
  clear h q q' HH
  go_wp2
  clear e1 e2 x1
  go_loopg [5] row.length (fun gk v5 wx => ∃ (i : Nat), i + gk = row.length ∧ v5 = .int .i64 i ∧ Aside0 (Below W1.heap.size W1 wx) ∧ Aside0 (r = fitsL (cols.drop i) (row.drop i)))
  case atStart => exact ⟨0, by omega, rfl, ⟨Below.refl _ _⟩, HP⟩
  case round =>
    clear HP
    obtain ⟨i, hi, rfl, HW, HP⟩ := hrel
    cases gk with
    | zero =>
      have hp := HP.out
      rw [List.drop_eq_nil_of_le (by omega : row.length ≤ i)] at hp
      have hz : fitsL (cols.drop i) [] = 0 := by cases cols.drop i <;> rfl
      rw [hz] at hp
      subst hp
      have hii : ¬ (i : Int) < (row.length : Int) := by omega
      clear HP hz
      go_wp2
      go_ret
      exact ⟨rfl, below_step HBW.out HW.out⟩
    | succ gi =>
      have hii : (i : Int) < (row.length : Int) := by omega
      have hi0 : (0 : Int) ≤ (i : Int) := by omega
      have hic : (i : Int) < (cols.length : Int) := by have := HQ.out; omega
      obtain ⟨a1, ha1, u0, u1, u2, u3, u4⟩ := at_T78 H1.out (i : Int) hi0 hic
      cases ha1
      obtain ⟨a2, ha2, v0, v1, v2⟩ := at_T64 HR.out (i : Int) hi0 hii
      cases ha2
      rw [Int.toNat_natCast] at u0 u1 u2 u3 u4 v0 v1 v2
      have hp := HP.out
      rw [fitsL_drop cols row i (by omega) HQ.out] at hp
      have hx : wfV (rd_T64 row (i : Int)) := by
        have : rd_T64 row (i : Int) = row[i]'(by omega) := by unfold rd_T64; simp [List.getD, show i < row.length by omega]
        rw [this]; exact HWF.out _ (List.getElem_mem _)
      generalize rd_T78 cols (i : Int) = cc at *
      generalize rd_T64 row (i : Int) = x at *
      have HN : Aside0 (∀ W, Calls Tryd.prog 42 #[.agg #[.string cc.f0, .int .u8 cc.f1, .bool cc.f2, .int .i64 cc.f3, .int .i64 cc.f4], .agg #[.int .u8 x.f0, .int .i64 x.f1, .string x.f2]] W fun e w' => e = .returned (.int .i64 (fitsP cc x)) ∧ Below W.heap.size W w') := ⟨fun W => HFT.out cc x W hx⟩
      have KS : ∀ W, Below W1.heap.size W1 W → W.cell? ⟨B, 1, none⟩ = some (Value.slice (some a1) cols.length c1) ∧ W.cell? (a1.add (i * 5)) = some (.string cc.f0) ∧ W.cell? ⟨(a1.add (i * 5)).block, (a1.add (i * 5)).off + 1, none⟩ = some (.int .u8 cc.f1) ∧ W.cell? ⟨(a1.add (i * 5)).block, (a1.add (i * 5)).off + 2, none⟩ = some (.bool cc.f2) ∧ W.cell? ⟨(a1.add (i * 5)).block, (a1.add (i * 5)).off + 3, none⟩ = some (.int .i64 cc.f3) ∧ W.cell? ⟨(a1.add (i * 5)).block, (a1.add (i * 5)).off + 4, none⟩ = some (.int .i64 cc.f4) ∧ W.cell? (a2.add (i * 3)) = some (.int .u8 x.f0) ∧ W.cell? ⟨(a2.add (i * 3)).block, (a2.add (i * 3)).off + 1, none⟩ = some (.int .i64 x.f1) ∧ W.cell? ⟨(a2.add (i * 3)).block, (a2.add (i * 3)).off + 2, none⟩ = some (.string x.f2) := fun W hW => by
        have hb := below_step HBW.out hW
        exact ⟨KB.out W hW, (hb.cell (World.block_lt_of_cell? w _ u0)).trans u0, (hb.cell (World.block_lt_of_cell? w _ u1)).trans u1, (hb.cell (World.block_lt_of_cell? w _ u2)).trans u2, (hb.cell (World.block_lt_of_cell? w _ u3)).trans u3, (hb.cell (World.block_lt_of_cell? w _ u4)).trans u4, (hb.cell (World.block_lt_of_cell? w _ v0)).trans v0, (hb.cell (World.block_lt_of_cell? w _ v1)).trans v1, (hb.cell (World.block_lt_of_cell? w _ v2)).trans v2⟩
      have HP := Aside0.mk hp
      clear hp u0 u1 u2 u3 u4 v0 v1 v2 hx
      generalize fitsP cc x = fe at *
      go_wp2
      go_region_held3 (fun W => W.cell? ⟨B, 1, none⟩ = some (Value.slice (some a1) cols.length c1) ∧ W.cell? (a1.add (i * 5)) = some (.string cc.f0) ∧ W.cell? ⟨(a1.add (i * 5)).block, (a1.add (i * 5)).off + 1, none⟩ = some (.int .u8 cc.f1) ∧ W.cell? ⟨(a1.add (i * 5)).block, (a1.add (i * 5)).off + 2, none⟩ = some (.bool cc.f2) ∧ W.cell? ⟨(a1.add (i * 5)).block, (a1.add (i * 5)).off + 3, none⟩ = some (.int .i64 cc.f3) ∧ W.cell? ⟨(a1.add (i * 5)).block, (a1.add (i * 5)).off + 4, none⟩ = some (.int .i64 cc.f4) ∧ W.cell? (a2.add (i * 3)) = some (.int .u8 x.f0) ∧ W.cell? ⟨(a2.add (i * 3)).block, (a2.add (i * 3)).off + 1, none⟩ = some (.int .i64 x.f1) ∧ W.cell? ⟨(a2.add (i * 3)).block, (a2.add (i * 3)).off + 2, none⟩ = some (.string x.f2)) (first | exact KS _ (below_drew1 HW.out) | exact KS _ (below_step (below_drew1 HW.out) hb1)) ((go_at_call 42; refine (HN.out _).mono ?_; rintro e w1 ⟨rfl, hb1⟩))
      have HW2 := Aside0.mk (below_step (below_drew1 HW.out) hb1)
      clear hb1 KS
      by_cases q : fe = 0
      · have hp := HP.out
        rw [if_pos q] at hp
        have HP2 := Aside0.mk hp
        have e1 : (fe == 0) = true := beq_iff_eq.mpr q
        have e2 : (fe != 0) = false := by rw [bne, e1]; rfl
        clear hp q HP
        go_wp2
        go_roundg gi
        case measure => omega
        case rel => exact ⟨i + 1, by omega, ret_n (by omega), HW2, HP2⟩
      · have hp := HP.out
        rw [if_neg q] at hp
        have e1 : (fe == 0) = false := beq_eq_false_iff_ne.mpr q
        have e2 : (fe != 0) = true := by rw [bne, e1]; rfl
        subst hp
        clear q HP
        go_wp2
        go_ret
        exact ⟨rfl, below_step HBW.out HW2.out⟩

theorem rdL13 {l : List (List (List S64))} {i : Nat} (h : i < l.length) : rd_L13 l (i : Int) = l[i] := by unfold rd_L13; simp [List.getD, h]
def refHoldsP (s : List S49) (d : List (List (List S64))) : Nat → Nat → Option Bool
  | 0, _ => some true
  | g + 1, i => (refKeysP (rd_L13 d i) (rd_T49 s i).f2).bind fun a => if a = true then (refRefsP s d i (rd_T49 s i).f3).bind fun b => if b = true then refHoldsP s d g (i + 1) else some false else some false
def refDataP (s : List S49) (d : List (List (List S64))) : Option Bool :=
  (refValidP s).bind fun v => if v = true then (if d.length = s.length then (if dataFitP s d = true then refHoldsP s d s.length 0 else some false) else some false) else some false

set_option maxHeartbeats 4000000 in
set_option maxRecDepth 100000 in
theorem refData_walk (A0 : Option Addr) (c0 : Nat) (s : List S49) (A1 : Option Addr) (c1 : Nat) (d : List (List (List S64))) (r : Bool) (w : World)
    (hS : Kd.C k49 w A0 s.length s) (hc0 : s.length ≤ c0) (hD : Kd.C (Kd.slice 51 (Kd.slice 64 k64)) w A1 d.length d) (hc1 : d.length ≤ c1) (hwf : ∀ rows ∈ d, ∀ row ∈ rows, ∀ x ∈ row, wfV x) (h : refDataP s d = some r) :
    Calls Tryd.prog 8 #[.slice A0 s.length c0, .slice A1 d.length c1] w fun e w' => e = .returned (.bool r) ∧ Below w.heap.size w w' := by
  have HS := Aside0.mk hS
  have HD := Aside0.mk hD
  have HWF := Aside0.mk hwf
  have hlen := hS.2.1
  unfold refDataP at h
  obtain ⟨v, hv, h⟩ := Option.bind_eq_some_iff.mp h
  have HV := Aside0.mk (refValid_walk A0 c0 s v w hS hc0 hv)
  have HFR : Aside0 (∀ (t : S49) (A1 : Option Addr) (c1 : Nat) (A2 : Option Addr) (c2 : Nat) (A3 : Option Addr) (c3 : Nat) (A4 : Option Addr) (c4 : Nat) (A : Option Addr) (c : Nat) (row : List S64) (W : World), Kd.C k78 W A1 t.f1.length t.f1 → t.f1.length ≤ c1 → Kd.C k64 W A row.length row → row.length ≤ c → (∀ x ∈ row, wfV x) →
      Calls Tryd.prog 20 #[.agg #[.string t.f0, .slice A1 t.f1.length c1, .slice A2 t.f2.length c2, .slice A3 t.f3.length c3, .slice A4 t.f4.length c4], .slice A row.length c] W fun e w' => e = .returned (.int .i64 (fitsRowP t.f1 row)) ∧ Below W.heap.size W w') := ⟨fun t A1 c1 A2 c2 A3 c3 A4 c4 A c row W h1 g1 hR hc hw => refFitsRow_walk t.f0 A1 c1 t.f1 A2 _ c2 A3 _ c3 A4 _ c4 A c row W h1 g1 hR hc hw⟩
  have HKH : Aside0 (∀ (n : Nat) (b : Bool) (W : World), Below w.heap.size w W → n < s.length → n < d.length → refKeysP (rd_L13 d n) (rd_T49 s n).f2 = some b → Calls Tryd.prog 21 #[.slice A0 s.length c0, .slice A1 d.length c1, .int .i64 n] W fun e w' => e = .returned (.bool b) ∧ Below W.heap.size W w') := ⟨fun n b W hW hn hnd hb => refKeys_walk A0 c0 s A1 c1 d n b W (Kd.C_below hS hW) hc0 (Kd.C_below hD hW) hc1 hn hnd hb⟩
  have HRH : Aside0 (∀ (n : Nat) (b : Bool) (W : World), Below w.heap.size w W → n < s.length → n < d.length → refRefsP s d n (rd_T49 s n).f3 = some b → Calls Tryd.prog 22 #[.slice A0 s.length c0, .slice A1 d.length c1, .int .i64 n] W fun e w' => e = .returned (.bool b) ∧ Below W.heap.size W w') := ⟨fun n b W hW hn hnd hb => refRefs_walk A0 c0 s A1 c1 d n b W (Kd.C_below hS hW) hc0 (Kd.C_below hD hW) hc1 hn hnd hb⟩
  clear hS hD hv hwf
  have HH := Aside0.mk h
  clear h
  go_enter Tryd.func8, Tryd.ntmps8
  cases v with
  | false =>
    have h := HH.out
    rw [if_neg (by decide)] at h
    obtain rfl := Option.some.inj h
    clear h HH
    go_wp2_with (go_at_call 7; refine HV.out.mono ?_; rintro e w1 ⟨rfl, hb1⟩)
    go_ret
    exact ⟨rfl, hb1⟩
  | true =>
  have h := HH.out
  rw [if_pos rfl] at h
  clear HH
  by_cases q : d.length = s.length
  case neg =>
    rw [if_neg q] at h
    obtain rfl := Option.some.inj h
    have q' : ¬ (d.length : Int) = (s.length : Int) := by omega
    have e1 : ((d.length : Int) == (s.length : Int)) = false := beq_eq_false_iff_ne.mpr q'
    have e2 : ((d.length : Int) != (s.length : Int)) = true := by rw [bne, e1]; rfl
    clear h q q'
    go_wp2_with (go_at_call 7; refine HV.out.mono ?_; rintro e w1 ⟨rfl, hb1⟩)
    go_ret
    exact ⟨rfl, hb1⟩
  rw [if_pos q] at h
  have q' : (d.length : Int) = (s.length : Int) := by omega
  have e1 : ((d.length : Int) == (s.length : Int)) = true := beq_iff_eq.mpr q'
  have e2 : ((d.length : Int) != (s.length : Int)) = false := by rw [bne, e1]; rfl
  have HQ := Aside0.mk q
  have HP : Aside0 ((if dataFitP (s.drop 0) (d.drop 0) = true then refHoldsP s d s.length 0 else some false) = some r) := ⟨by simpa using h⟩
  clear h q q'
  go_wp2_with (go_at_call 7; refine HV.out.mono ?_; rintro e w1 ⟨rfl, hb1⟩)
  have HB := Aside0.mk hb1
  clear hb1 HV e1 e2
  go_loopg [5] s.length (fun gk v5 wx => ∃ (i : Nat), i + gk = s.length ∧ v5 = .int .i64 i ∧ Aside0 (Below w.heap.size w wx) ∧ Aside0 ((if dataFitP (s.drop i) (d.drop i) = true then refHoldsP s d s.length 0 else some false) = some r))
  case atStart => exact ⟨0, by omega, rfl, HB, HP⟩
  case round =>
    clear HP HB
    obtain ⟨n, hn, rfl, HW, HP⟩ := hrel
    cases gk with
    | succ gi =>
      have hii : (n : Int) < (s.length : Int) := by omega
      have hid : (n : Int) < (d.length : Int) := by have := HQ.out; omega
      have hi0 : (0 : Int) ≤ (n : Int) := by omega
      obtain ⟨an, A1_, c1_, A2, c2, A3, c3, A4, c4, hAn, hy0, hy1, hy2, hy3, hy4, g1, h1, g2, h2, g3, h3, g4, h4⟩ := at_T49 HS.out (n : Int) hi0 hii
      cases hAn
      obtain ⟨ad, Ar, cr, hA, hx, hcr, hCr⟩ := at_L13 HD.out (n : Int) hi0 hid
      cases hA
      rw [Int.toNat_natCast] at hx hy0 hy1 hy2 hy3 hy4
      have hp := HP.out
      rw [List.drop_eq_getElem_cons (by omega : n < s.length), List.drop_eq_getElem_cons (by omega : n < d.length), dataFitP, ← rdL13 (by omega), ← rdT49 (by omega)] at hp
      have hwr : ∀ row ∈ rd_L13 d (n : Int), ∀ x ∈ row, wfV x := by rw [rdL13 (by omega)]; exact HWF.out _ (List.getElem_mem _)
      generalize rd_T49 s (n : Int) = t at *
      generalize rd_L13 d (n : Int) = rows at *
      have HCR := Aside0.mk hCr
      have hrl := hCr.2.1
      have HWR := Aside0.mk hwr
      have HX : Aside0 (∀ W, Below w.heap.size w W → W.cell? (ad.add n) = some (.slice Ar rows.length cr)) := ⟨fun W hW => (hW.cell (World.block_lt_of_cell? w _ hx)).trans hx⟩
      have x0 := HX.out wr HW.out
      by_cases q : (rows.length : Int) > 1000
      · rw [if_pos q, if_neg (by decide)] at hp
        obtain rfl := Option.some.inj hp
        have d1 : decide (1000 < (rows.length : Int)) = true := decide_eq_true q
        clear hp HP q hCr hwr
        go_wp2
        go_ret
        exact ⟨rfl, HW.out⟩
      rw [if_neg q] at hp
      have d1 : decide (1000 < (rows.length : Int)) = false := decide_eq_false q
      have HP1 : Aside0 ((if rowsFitP t (rows.drop 0) = true then (if dataFitP (s.drop (n + 1)) (d.drop (n + 1)) = true then refHoldsP s d s.length 0 else some false) else some false) = some r) := ⟨by
        rw [← hp]
        by_cases q1 : rowsFitP t rows = true
        · rw [List.drop_zero, if_pos q1, if_pos q1]
        · rw [List.drop_zero, if_neg q1, if_neg q1, if_neg (by decide)]⟩
      have HF : Aside0 (∀ (A : Option Addr) (c : Nat) (row : List S64) (W : World), Below w.heap.size w W → Kd.C k64 W A row.length row → row.length ≤ c → (∀ x ∈ row, wfV x) → Calls Tryd.prog 20 #[.agg #[.string t.f0, .slice A1_ t.f1.length c1_, .slice A2 t.f2.length c2, .slice A3 t.f3.length c3, .slice A4 t.f4.length c4], .slice A row.length c] W fun e w' => e = .returned (.int .i64 (fitsRowP t.f1 row)) ∧ Below W.heap.size W w') := ⟨fun A c row W hW hC hc hw => HFR.out t A1_ c1_ A2 c2 A3 c3 A4 c4 A c row W (Kd.C_below h1 hW) g1 hC hc hw⟩
      have HY : Aside0 (∀ W, Below w.heap.size w W → W.cell? (an.add (n * 5)) = some (.string t.f0) ∧ W.cell? ⟨(an.add (n * 5)).block, (an.add (n * 5)).off + 1, none⟩ = some (.slice A1_ t.f1.length c1_) ∧ W.cell? ⟨(an.add (n * 5)).block, (an.add (n * 5)).off + 2, none⟩ = some (.slice A2 t.f2.length c2) ∧ W.cell? ⟨(an.add (n * 5)).block, (an.add (n * 5)).off + 3, none⟩ = some (.slice A3 t.f3.length c3) ∧ W.cell? ⟨(an.add (n * 5)).block, (an.add (n * 5)).off + 4, none⟩ = some (.slice A4 t.f4.length c4)) := ⟨fun W hB =>
        ⟨(hB.cell (World.block_lt_of_cell? w _ hy0)).trans hy0, (hB.cell (World.block_lt_of_cell? w _ hy1)).trans hy1, (hB.cell (World.block_lt_of_cell? w _ hy2)).trans hy2, (hB.cell (World.block_lt_of_cell? w _ hy3)).trans hy3, (hB.cell (World.block_lt_of_cell? w _ hy4)).trans hy4⟩⟩
      clear hp HP q hCr hwr hy0 hy1 hy2 hy3 hy4 g1 h1 g2 h2 g3 h3 g4 h4 hx
      go_wp2
      clear x0 d1
      go_loopg [6] rows.length (fun gj v6 wx => ∃ (j : Nat), j + gj = rows.length ∧ v6 = .int .i64 j ∧ Aside0 (Below w.heap.size w wx) ∧ Aside0 ((if rowsFitP t (rows.drop j) = true then (if dataFitP (s.drop (n + 1)) (d.drop (n + 1)) = true then refHoldsP s d s.length 0 else some false) else some false) = some r))
      case atStart => exact ⟨0, by omega, rfl, HW, HP1⟩
      case round =>
        clear HW HP1
        obtain ⟨j, hj, rfl, HW, HP⟩ := hrel
        have x0 := HX.out wr HW.out
        cases gk with
        | zero =>
          have hp := HP.out
          rw [List.drop_eq_nil_of_le (by omega), rowsFitP, if_pos rfl] at hp
          have HP2 := Aside0.mk hp
          have hjj : ¬ (j : Int) < (rows.length : Int) := by omega
          clear hp HP
          go_wp2
          go_roundg gi
          case measure => omega
          case rel => exact ⟨n + 1, by omega, ret_n (by omega), HW, HP2⟩
        | succ gj =>
          have hjj : (j : Int) < (rows.length : Int) := by omega
          have hj0 : (0 : Int) ≤ (j : Int) := by omega
          obtain ⟨adr, Aw, cw, hAw, hxw, hcw, hCw⟩ := at_L12 HCR.out (j : Int) hj0 hjj
          cases hAw
          rw [Int.toNat_natCast] at hxw
          have hp := HP.out
          rw [List.drop_eq_getElem_cons (by omega), rowsFitP, ← rdL12 (by omega)] at hp
          have hw : ∀ x ∈ rd_L12 rows (j : Int), wfV x := by rw [rdL12 (by omega)]; exact HWR.out _ (List.getElem_mem _)
          generalize rd_L12 rows (j : Int) = row at *
          have HN : Aside0 (∀ W, Below w.heap.size w W → Calls Tryd.prog 20 #[.agg #[.string t.f0, .slice A1_ t.f1.length c1_, .slice A2 t.f2.length c2, .slice A3 t.f3.length c3, .slice A4 t.f4.length c4], .slice Aw row.length cw] W fun e w' => e = .returned (.int .i64 (fitsRowP t.f1 row)) ∧ Below W.heap.size W w') := ⟨fun W hW => HF.out Aw cw row W hW (Kd.C_below hCw hW) hcw hw⟩
          have KS : ∀ W, Below w.heap.size w W → W.cell? (an.add (n * 5)) = some (.string t.f0) ∧ W.cell? ⟨(an.add (n * 5)).block, (an.add (n * 5)).off + 1, none⟩ = some (.slice A1_ t.f1.length c1_) ∧ W.cell? ⟨(an.add (n * 5)).block, (an.add (n * 5)).off + 2, none⟩ = some (.slice A2 t.f2.length c2) ∧ W.cell? ⟨(an.add (n * 5)).block, (an.add (n * 5)).off + 3, none⟩ = some (.slice A3 t.f3.length c3) ∧ W.cell? ⟨(an.add (n * 5)).block, (an.add (n * 5)).off + 4, none⟩ = some (.slice A4 t.f4.length c4) ∧ W.cell? (ad.add n) = some (.slice (some adr) rows.length cr) ∧ W.cell? (adr.add j) = some (.slice Aw row.length cw) := fun W hW => by
            obtain ⟨z0, z1, z2, z3, z4⟩ := HY.out W hW
            exact ⟨z0, z1, z2, z3, z4, HX.out W hW, (hW.cell (World.block_lt_of_cell? w _ hxw)).trans hxw⟩
          have HP1 := Aside0.mk hp
          clear hp HP hCw hw hxw
          generalize fitsRowP t.f1 row = fe at *
          go_wp2
          clear x0
          go_region_held3 (fun W => W.cell? (an.add (n * 5)) = some (.string t.f0) ∧ W.cell? ⟨(an.add (n * 5)).block, (an.add (n * 5)).off + 1, none⟩ = some (.slice A1_ t.f1.length c1_) ∧ W.cell? ⟨(an.add (n * 5)).block, (an.add (n * 5)).off + 2, none⟩ = some (.slice A2 t.f2.length c2) ∧ W.cell? ⟨(an.add (n * 5)).block, (an.add (n * 5)).off + 3, none⟩ = some (.slice A3 t.f3.length c3) ∧ W.cell? ⟨(an.add (n * 5)).block, (an.add (n * 5)).off + 4, none⟩ = some (.slice A4 t.f4.length c4) ∧ W.cell? (ad.add n) = some (.slice (some adr) rows.length cr) ∧ W.cell? (adr.add j) = some (.slice Aw row.length cw)) (first | exact KS _ (below_drew1 HW.out) | exact KS _ (below_step (below_drew1 HW.out) hb1)) ((go_at_call 20; refine (HN.out _ (below_drew1 HW.out)).mono ?_; rintro e w1 ⟨rfl, hb1⟩))
          have HW2 := Aside0.mk (below_step (below_drew1 HW.out) hb1)
          clear hb1 KS
          by_cases q : fe = 0
          · have hp := HP1.out
            rw [if_pos q] at hp
            have HP2 := Aside0.mk hp
            have e1 : (fe == 0) = true := beq_iff_eq.mpr q
            have e2 : (fe != 0) = false := by rw [bne, e1]; rfl
            clear hp q HP1
            go_wp2
            go_roundg gj
            case measure => omega
            case rel => exact ⟨j + 1, by omega, ret_n (by omega), HW2, HP2⟩
          · have hp := HP1.out
            rw [if_neg q, if_neg (by decide)] at hp
            obtain rfl := Option.some.inj hp
            have e1 : (fe == 0) = false := beq_eq_false_iff_ne.mpr q
            have e2 : (fe != 0) = true := by rw [bne, e1]; rfl
            clear hp q HP1
            go_wp2
            go_ret
            exact ⟨rfl, HW2.out⟩
    | zero =>
      have hp := HP.out
      have hfit : ∀ l, dataFitP l [] = true := fun l => by cases l <;> rfl
      rw [List.drop_eq_nil_of_le (by have := HQ.out; omega : d.length ≤ n), hfit, if_pos rfl] at hp
      have HP2 := Aside0.mk hp
      have hii : ¬ (n : Int) < (s.length : Int) := by omega
      clear hp HP hfit
      go_wp2
      clear hii hn
      go_loopg [8] s.length (fun gk v8 wx => ∃ (i : Nat), i + gk = s.length ∧ v8 = .int .i64 i ∧ Aside0 (Below w.heap.size w wx) ∧ Aside0 (refHoldsP s d gk i = some r))
      case atStart => exact ⟨0, by omega, rfl, HW, HP2⟩
      case round =>
        clear HW HP2
        obtain ⟨n, hn, rfl, HW, HP⟩ := hrel
        cases gk with
        | zero =>
          have hp := HP.out
          rw [refHoldsP] at hp
          obtain rfl := Option.some.inj hp
          have hii : ¬ (n : Int) < (s.length : Int) := by omega
          clear hp HP
          go_wp2
          go_ret
          exact ⟨rfl, HW.out⟩
        | succ gi =>
          have hii : (n : Int) < (s.length : Int) := by omega
          have hp := HP.out
          rw [refHoldsP] at hp
          clear HP
          obtain ⟨a, ha, hp⟩ := Option.bind_eq_some_iff.mp hp
          have HN := Aside0.mk (HKH.out n a wr HW.out (by omega) (by have := HQ.out; omega) ha)
          have HP := Aside0.mk hp
          clear hp ha
          cases a with
          | false =>
            have hp := HP.out
            rw [if_neg (by decide)] at hp
            obtain rfl := Option.some.inj hp
            clear hp HP
            go_wp2_with (go_at_call 21; refine HN.out.mono ?_; rintro e w1 ⟨rfl, hb1⟩)
            go_ret
            exact ⟨rfl, below_step HW.out hb1⟩
          | true =>
            have hp := HP.out
            rw [if_pos rfl] at hp
            obtain ⟨b, hb, hp⟩ := Option.bind_eq_some_iff.mp hp
            have HR2 : Aside0 (∀ W, Below w.heap.size w W → Calls Tryd.prog 22 #[.slice A0 s.length c0, .slice A1 d.length c1, .int .i64 n] W fun e w' => e = .returned (.bool b) ∧ Below W.heap.size W w') := ⟨fun W hW => HRH.out n b W hW (by omega) (by have := HQ.out; omega) hb⟩
            have HP2 := Aside0.mk hp
            clear hp HP hb
            cases b with
            | false =>
              have hp := HP2.out
              rw [if_neg (by decide)] at hp
              obtain rfl := Option.some.inj hp
              clear hp HP2
              go_wp2_with (first | (go_at_call 21; refine HN.out.mono ?_; rintro e w1 ⟨rfl, hb1⟩) | (go_at_call 22; refine (HR2.out _ (below_step HW.out hb1)).mono ?_; rintro e w2 ⟨rfl, hb2⟩))
              go_ret
              exact ⟨rfl, below_step (below_step HW.out hb1) hb2⟩
            | true =>
              have hp := HP2.out
              rw [if_pos rfl] at hp
              have HP3 := Aside0.mk hp
              clear hp HP2
              go_wp2_with (first | (go_at_call 21; refine HN.out.mono ?_; rintro e w1 ⟨rfl, hb1⟩) | (go_at_call 22; refine (HR2.out _ (below_step HW.out hb1)).mono ?_; rintro e w2 ⟨rfl, hb2⟩))
              go_roundg gi
              case measure => omega
              case rel => exact ⟨n + 1, by omega, ret_n (by omega), ⟨below_step (below_step HW.out hb1) hb2⟩, HP3⟩
end Go.Proofs.YthgfdnffnbclpaaDoor.PAll
