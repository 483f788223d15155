import Derived.Test.YthgfdnffnbclpaaGreatDoorSQG12
set_option linter.unusedVariables false
set_option linter.unusedSimpArgs false
namespace Go.Proofs.YthgfdnffnbclpaaGreatDoor.PAll
open Go.RowKit Go.Proofs.YthgfdnffnbclpaaGreatDoorW.PrintWords Go.Proofs.YthgfdnffnbclpaaGreatDoorW.PrintLast Go.Proofs.YthgfdnffnbclpaaGreatDoorW.PrintMore
def fitsL : List S78 → List S64 → Int
 | c :: cs, x :: xs => if fitsP c x = 0 then fitsL cs xs else fitsP c x
 | _, _ => 0
def fitsRowP (cols : List S78) (row : List S64) : Int := if row.length = cols.length then fitsL cols row else 78
set_option maxHeartbeats 4000000 in
set_option maxRecDepth 100000 in
theorem fitsRow_walk (a0 : ByteArray) (A1 : Option Addr) (c1 : Nat) (cols : List S78) (A2 : Option Addr) (n2 c2 : Nat) (A3 : Option Addr) (n3 c3 : Nat) (A4 : Option Addr) (n4 c4 : Nat) (A : Option Addr) (c : Nat) (row : List S64) (w : World)
  (h1 : Kd.C k78 w A1 cols.length cols) (hc1 : cols.length ≤ c1) (hR : Kd.C k64 w A row.length row) (hc : row.length ≤ c) :
  Calls Tryz.prog 69 #[.agg #[.string a0, .slice A1 cols.length c1, .slice A2 n2 c2, .slice A3 n3 c3, .slice A4 n4 c4], .slice A row.length c] w fun e w' => e = .returned (.int .i64 (fitsRowP cols row)) ∧ Below w.heap.size w w' := by
 obtain ⟨E, hE⟩ : ∃ E, E = w.alloc (Obj.cells #[.string a0, .slice A1 cols.length c1, .slice A2 n2 c2, .slice A3 n3 c3, .slice A4 n4 c4] 72) := ⟨_, rfl⟩
 obtain ⟨gb, hgb⟩ : ∃ g, g = w.heap.size := ⟨_, rfl⟩
 have HE : Aside0 (∀ W, Below E.heap.size E W → Below w.heap.size w W) := ⟨fun W hW => below_step (by rw [hE]; exact (Below.refl _ _).alloc (Nat.le_refl _) _) hW⟩
 have HGB : E.heap[gb]? = some (.cells #[.string a0, .slice A1 cols.length c1, .slice A2 n2 c2, .slice A3 n3 c3, .slice A4 n4 c4] 72 (0, 0)) := by rw [hE, hgb]; exact Go.Deep.blk_alloc_new w _
 have FC : Aside0 (∀ W, Below E.heap.size E W → W.cell? ⟨gb, 1, none⟩ = some (.slice A1 cols.length c1)) := ⟨fun W hW => (blk_cell ((hW.block _ (blk_lt HGB)).trans HGB) 1).trans rfl⟩
 clear HGB
 obtain ⟨r, hr⟩ : ∃ r, r = fitsRowP cols row := ⟨_, rfl⟩
 rw [← hr]
 have HRQ := Aside0.mk hr
 have H1 := Aside0.mk h1
 have HR := Aside0.mk hR
 clear hr h1 hR
 subst hE
 subst hgb
 go_enter Tryz.func69, Tryz.ntmps69
 go_upto_region 1 with (fail)
 generalize (w.alloc (Obj.cells #[.string a0, .slice A1 cols.length c1, .slice A2 n2 c2, .slice A3 n3 c3, .slice A4 n4 c4] 72)) = E at *
 have hB0 := Aside0.mk (Below.refl E.heap.size E)
 have e1 := FC.out E (Below.refl _ _)
 by_cases q : row.length = cols.length
 case neg =>
  have qi : ¬ ((row.length : Int) = (cols.length : Int)) := by omega
  have d1 : ((row.length : Int) == (cols.length : Int)) = false := beq_eq_false_iff_ne.mpr qi
  have d2 : ((row.length : Int) != (cols.length : Int)) = true := bne_iff_ne.mpr qi
  go_wp2
  go_ret
  exact ⟨by rw [HRQ.out]; simp [fitsRowP, q], HE.out _ hB0.out⟩
 have qi : ((row.length : Int) = (cols.length : Int)) := by omega
 have d1 : ((row.length : Int) == (cols.length : Int)) = true := beq_iff_eq.mpr qi
 have d2 : ((row.length : Int) != (cols.length : Int)) = false := by rw [bne, d1]; rfl
 have HQ := Aside0.mk q
 have HR0 : Aside0 (r = fitsL cols row) := ⟨by rw [HRQ.out, fitsRowP, if_pos q]⟩
 clear qi q HRQ
 go_wp2
 clear d1 d2 e1
 go_loopg [16] row.length (fun gk v16 wx => ∃ (i : Nat), i + gk = row.length ∧ v16 = .int .i64 i ∧ Aside0 (Below E.heap.size E wx) ∧ Aside0 (r = fitsL (cols.drop i) (row.drop i)))
 case atStart => exact ⟨0, by omega, rfl, hB0, by simpa using HR0⟩
 case round =>
  clear hB0 HR0
  obtain ⟨i, hi, rfl, HW, HP⟩ := hrel
  cases gk with
  | zero =>
   have e : row.drop i = [] := List.drop_eq_nil_of_le (by omega)
   have hp := HP.out
   rw [e] at hp
   have hp2 : r = 0 := by rw [hp]; cases cols.drop i <;> rfl
   have hii : ¬ (i : Int) < (row.length : Int) := by omega
   clear hp
   go_wp2
   go_ret
   exact ⟨by first | rfl | rw [hp2], HE.out _ HW.out⟩
  | succ gk =>
   have hlt : i < row.length := by omega
   have hltc : i < cols.length := by have := HQ.out; omega
   have hii : (i : Int) < (row.length : Int) := by omega
   have hic : (i : Int) < (cols.length : Int) := by omega
   have hi0 : (0 : Int) ≤ (i : Int) := by omega
   have hdr : row.drop i = row[i] :: row.drop (i + 1) := List.drop_eq_getElem_cons hlt
   have hdc : cols.drop i = cols[i] :: cols.drop (i + 1) := List.drop_eq_getElem_cons hltc
   have hrd : rd_T64 row (i : Int) = row[i] := by unfold rd_T64; simp [List.getD, hlt]
   have hrc : rd_T78 cols (i : Int) = cols[i] := by unfold rd_T78; simp [List.getD, hltc]
   obtain ⟨ad, hA, hx0, hx1, hx2⟩ := at_T64 HR.out (i : Int) hi0 hii
   cases hA
   obtain ⟨ac, hAc, hy0, hy1, hy2, hy3, hy4⟩ := at_T78 H1.out (i : Int) hi0 hic
   cases hAc
   rw [hrd, Int.toNat_natCast] at hx0 hx1 hx2
   rw [hrc, Int.toNat_natCast] at hy0 hy1 hy2 hy3 hy4
   have hBw := HE.out _ HW.out
   replace hx0 := (hBw.cell (World.block_lt_of_cell? w _ hx0)).trans hx0
   replace hx1 := (hBw.cell (World.block_lt_of_cell? w _ hx1)).trans hx1
   replace hx2 := (hBw.cell (World.block_lt_of_cell? w _ hx2)).trans hx2
   have HY : Aside0 (∀ W, Below wr.heap.size wr W → W.cell? (ac.add (i * 5)) = some (.string cols[i].f0) ∧ W.cell? ⟨(ac.add (i * 5)).block, (ac.add (i * 5)).off + 1, none⟩ = some (.int .u8 cols[i].f1) ∧ W.cell? ⟨(ac.add (i * 5)).block, (ac.add (i * 5)).off + 2, none⟩ = some (.bool cols[i].f2) ∧ W.cell? ⟨(ac.add (i * 5)).block, (ac.add (i * 5)).off + 3, none⟩ = some (.int .i64 cols[i].f3) ∧ W.cell? ⟨(ac.add (i * 5)).block, (ac.add (i * 5)).off + 4, none⟩ = some (.int .i64 cols[i].f4)) := ⟨fun W hW => by
    have hB := below_step hBw hW
    exact ⟨(hB.cell (World.block_lt_of_cell? w _ hy0)).trans hy0, (hB.cell (World.block_lt_of_cell? w _ hy1)).trans hy1, (hB.cell (World.block_lt_of_cell? w _ hy2)).trans hy2, (hB.cell (World.block_lt_of_cell? w _ hy3)).trans hy3, (hB.cell (World.block_lt_of_cell? w _ hy4)).trans hy4⟩⟩
   have hp := HP.out
   rw [hdr, hdc, fitsL] at hp
   clear hy0 hy1 hy2 hy3 hy4 HP hBw
   generalize row[i] = x at *
   generalize cols[i] = c at *
   have HP := Aside0.mk hp
   clear hp
   have HN := Aside0.mk (fits_walk c x)
   go_wp2
   obtain ⟨B, hB⟩ : ∃ B, B = wr.heap.size := ⟨_, rfl⟩
   obtain ⟨W1, hW1⟩ : ∃ W, W = wr.alloc (Obj.cells #[.int .u8 x.f0, .int .i64 x.f1, .string x.f2] 87) := ⟨_, rfl⟩
   have hBK : W1.heap[B]? = some (.cells #[.int .u8 x.f0, .int .i64 x.f1, .string x.f2] 87 (0, 0)) := by rw [hW1, hB]; exact Go.Deep.blk_alloc_new wr _
   have hBW : Below wr.heap.size wr W1 := by rw [hW1]; exact (Below.refl _ _).alloc (Nat.le_refl _) _
   rw [← hW1, ← hB]
   clear hW1 hB
   have KB : ∀ W, (Below W1.heap.size W1 W) → (W.cell? ⟨B, 0, none⟩ = some (.int .u8 x.f0) ∧ W.cell? ⟨B, 1, none⟩ = some (.int .i64 x.f1) ∧ W.cell? ⟨B, 2, none⟩ = some (.string x.f2)) ∧ W.cell? ⟨w.heap.size, 1, none⟩ = some (.slice (some ac) cols.length c1) ∧ (W.cell? (ac.add (i * 5)) = some (.string c.f0) ∧ W.cell? ⟨(ac.add (i * 5)).block, (ac.add (i * 5)).off + 1, none⟩ = some (.int .u8 c.f1) ∧ W.cell? ⟨(ac.add (i * 5)).block, (ac.add (i * 5)).off + 2, none⟩ = some (.bool c.f2) ∧ W.cell? ⟨(ac.add (i * 5)).block, (ac.add (i * 5)).off + 3, none⟩ = some (.int .i64 c.f3) ∧ W.cell? ⟨(ac.add (i * 5)).block, (ac.add (i * 5)).off + 4, none⟩ = some (.int .i64 c.f4)) ∧ Below W1.heap.size W1 W := fun W hW => by
    have hh := (hW.block _ (blk_lt hBK)).trans hBK
    exact ⟨⟨(blk_cell hh 0).trans rfl, (blk_cell hh 1).trans rfl, (blk_cell hh 2).trans rfl⟩, FC.out W (below_step HW.out (below_step hBW hW)), HY.out W (below_step hBW hW), hW⟩
   have hBB := Aside0.mk hBW
   clear hBK hBW hx0 hx1 hx2 hdr hdc hrd hrc
   have KD := KB _ (below_drew1 (Below.refl _ _))
   refine start_ (n := 8) (S := fun W => (W.cell? ⟨B, 0, none⟩ = some (.int .u8 x.f0) ∧ W.cell? ⟨B, 1, none⟩ = some (.int .i64 x.f1) ∧ W.cell? ⟨B, 2, none⟩ = some (.string x.f2)) ∧ W.cell? ⟨w.heap.size, 1, none⟩ = some (.slice (some ac) cols.length c1) ∧ (W.cell? (ac.add (i * 5)) = some (.string c.f0) ∧ W.cell? ⟨(ac.add (i * 5)).block, (ac.add (i * 5)).off + 1, none⟩ = some (.int .u8 c.f1) ∧ W.cell? ⟨(ac.add (i * 5)).block, (ac.add (i * 5)).off + 2, none⟩ = some (.bool c.f2) ∧ W.cell? ⟨(ac.add (i * 5)).block, (ac.add (i * 5)).off + 3, none⟩ = some (.int .i64 c.f3) ∧ W.cell? ⟨(ac.add (i * 5)).block, (ac.add (i * 5)).off + 4, none⟩ = some (.int .i64 c.f4)) ∧ Below W1.heap.size W1 W) (ds := []) #[false, false, false, false, false, false, false, false] (by kernel_rfl) rfl rfl KD (fun hHeld => ?_)
   clear KD
   refine pure_ (i := 0) (N := some 21) (v := ?_) (a' := ?_) #[true, false, false, false, false, false, false, false] rfl rfl (by kernel_rfl) (fun _ _ _ h => h) (Or.inl ⟨by rfl, ?_⟩) ?_ ?_
   rotate_left
   ·intro w'; go_simp; with_reducible rfl
   rotate_left
   ·simp only [Act.put, List.setIfInBounds_toArray, List.set_cons_zero, List.set_cons_succ, i64_w, i32_w]; rfl
   refine take_ (i := 1) (N := some 22) (v := ?_) (a' := ?_) #[true, true, false, false, false, false, false, false] rfl rfl (by kernel_rfl) (fun _ _ _ h => h) (Or.inl ⟨by rfl, ?_⟩) hHeld ?_ ?_
   rotate_left
   ·rintro w' ⟨_, s0, _, _⟩; go_simp; with_reducible rfl
   rotate_left
   ·simp only [Act.put, List.setIfInBounds_toArray, List.set_cons_zero, List.set_cons_succ, i64_w, i32_w]; rfl
   refine pure_ (i := 2) (N := some 23) (v := ?_) (a' := ?_) #[true, true, true, false, false, false, false, false] rfl rfl (by kernel_rfl) (fun _ _ _ h => h) (Or.inl ⟨by rfl, ?_⟩) ?_ ?_
   rotate_left
   ·intro w'; go_simp; with_reducible rfl
   rotate_left
   ·simp only [Act.put, List.setIfInBounds_toArray, List.set_cons_zero, List.set_cons_succ, i64_w, i32_w]; rfl
   refine pure_ (i := 3) (N := some 24) (v := ?_) (a' := ?_) #[true, true, true, true, false, false, false, false] rfl rfl (by kernel_rfl) (fun _ _ _ h => h) (Or.inl ⟨by rfl, ?_⟩) ?_ ?_
   rotate_left
   ·intro w'; go_simp; with_reducible rfl
   rotate_left
   ·simp only [Act.put, List.setIfInBounds_toArray, List.set_cons_zero, List.set_cons_succ, i64_w, i32_w]; rfl
   refine take_ (i := 4) (N := some 25) (v := ?_) (a' := ?_) #[true, true, true, true, true, false, false, false] rfl rfl (by kernel_rfl) (fun _ _ _ h => h) (Or.inl ⟨by rfl, ?_⟩) hHeld ?_ ?_
   rotate_left
   ·rintro w' ⟨_, _, ⟨s0, s1, s2, s3, s4⟩, _⟩; go_simp; with_reducible rfl
   rotate_left
   ·simp only [Act.put, List.setIfInBounds_toArray, List.set_cons_zero, List.set_cons_succ, i64_w, i32_w]; rfl
   refine take_ (i := 5) (N := some 26) (v := ?_) (a' := ?_) #[true, true, true, true, true, true, false, false] rfl rfl (by kernel_rfl) (fun _ _ _ h => h) (Or.inl ⟨by rfl, ?_⟩) hHeld ?_ ?_
   rotate_left
   ·rintro w' ⟨⟨s0, s1, s2⟩, _⟩; go_simp; with_reducible rfl
   rotate_left
   ·simp only [Act.put, List.setIfInBounds_toArray, List.set_cons_zero, List.set_cons_succ, i64_w, i32_w]; rfl
   refine one_ (i := 6) (N := some 27) #[true, true, true, true, true, true, true, false] rfl rfl (by kernel_rfl) (by decide) (fun K hK => ?_)
   refine goes_ Tryz.func124 (by kernel_rfl) rfl #[.agg #[.string c.f0, .int .u8 c.f1, .bool c.f2, .int .i64 c.f3, .int .i64 c.f4], .agg #[.int .u8 x.f0, .int .i64 x.f1, .string x.f2]] (by rfl) rfl rfl (by (try simp only [List.map_toArray, List.map_cons, List.map_nil]); first | done | rfl) ?_
   have hWd := below_step hBB.out hHeld.2.2.2
   refine (HN.out _).mono ?_
   rintro e w1 ⟨rfl, hb1⟩
   refine ⟨_, rfl, ?_⟩
   refine hK.out _ _ (KB _ (below_step hHeld.2.2.2 hb1)) (fun hHeld2 => ?_)
   clear hK K
   refine norm_ (a' := ?_) ?_ ?_
   rotate_left
   ·show Act.put _ (some 27) _ = _; simp only [Act.put, List.setIfInBounds_toArray, List.set_cons_zero, List.set_cons_succ, i64_w, i32_w]; rfl
   refine pure_ (i := 7) (N := some 7) (v := ?_) (a' := ?_) #[true, true, true, true, true, true, true, true] rfl rfl (by kernel_rfl) (fun _ _ _ h => h) (Or.inl ⟨by rfl, ?_⟩) ?_ ?_
   rotate_left
   ·intro w'; go_simp; with_reducible rfl
   rotate_left
   ·simp only [Act.put, List.setIfInBounds_toArray, List.set_cons_zero, List.set_cons_succ, i64_w, i32_w]; rfl
   refine done_ (by kernel_rfl) ?_
   have HW2 := Aside0.mk (below_step HW.out (below_step hWd hb1))
   clear hWd hb1 hHeld hHeld2 KB HN HY
   by_cases q : fitsP c x = 0
   ·have hp := HP.out
    rw [if_pos q] at hp
    have HP2 := Aside0.mk hp
    have d1 : (fitsP c x == 0) = true := beq_iff_eq.mpr q
    have d2 : (fitsP c x != 0) = false := by rw [bne, d1]; rfl
    clear hp q
    go_wp2
    go_roundg gk
    case measure => omega
    case rel => exact ⟨i + 1, by omega, by first | rfl | (simp; done) | (have := HR.out.2.1; simp; unfold wrap64; omega), HW2, HP2⟩
   ·have hp := HP.out
    rw [if_neg q] at hp
    have d1 : (fitsP c x == 0) = false := beq_eq_false_iff_ne.mpr q
    have d2 : (fitsP c x != 0) = true := by rw [bne, d1]; rfl
    clear q HP
    go_wp2
    go_ret
    exact ⟨by (generalize fitsP c x = y at *; subst hp; first | rfl | (simp; done)), HE.out _ HW2.out⟩
def fullP (row : List S64) : List Int → Option Bool
 | [] => some true
 | c :: r => if 0 ≤ c ∧ c < (row.length : Int) then (if (rd_T64 row c).f0 = 0 then some false else fullP row r) else none
def alikeP (a b : List S64) : List Int → List Int → Option Bool
 | [], _ => some true
 | c :: cs, q :: qs => if 0 ≤ c ∧ c < (a.length : Int) ∧ 0 ≤ q ∧ q < (b.length : Int) then (if rd_T64 a c = rd_T64 b q then alikeP a b cs qs else some false) else none
 | _ :: _, [] => none
theorem drop_rd {l : List Int} {i : Nat} (h : i < l.length) : l.drop i = rd l (i : Int) :: l.drop (i + 1) := by
 rw [List.drop_eq_getElem_cons h]
 congr 1
 unfold rd
 simp [List.getD, h]
theorem full_l (row : List S64) (l : List Int) (hl : l.length ≤ 9223372036854775807) : ∀ (d i k : Nat), i + d = l.length → d < k → jointerref07_Full.l0 k row l (i : Int) = fullP row (l.drop i) := by
 intro d
 induction d with
 | zero =>
  intro i k hi hk
  obtain ⟨k, rfl⟩ : ∃ m, k = m + 1 := ⟨k - 1, by omega⟩
  rw [jointerref07_Full.l0, if_neg (by omega), List.drop_eq_nil_of_le (by omega)]; rfl
 | succ d ih =>
  intro i k hi hk
  obtain ⟨k, rfl⟩ : ∃ m, k = m + 1 := ⟨k - 1, by omega⟩
  rw [jointerref07_Full.l0, if_pos (by omega), if_pos (by omega), drop_rd (by omega), fullP, w1 i (by omega), ih (i + 1) k (by omega) (by omega)]
  by_cases q1 : 0 ≤ rd l (i : Int)
  ·rw [if_pos q1]
   by_cases q2 : rd l (i : Int) < (row.length : Int)
   ·have q : 0 ≤ rd l (i : Int) ∧ rd l (i : Int) < (row.length : Int) := ⟨q1, q2⟩
    rw [if_pos q2, if_pos q]
   ·have q : ¬ (0 ≤ rd l (i : Int) ∧ rd l (i : Int) < (row.length : Int)) := fun h => q2 h.2
    rw [if_neg q2, if_neg q]
  ·have q : ¬ (0 ≤ rd l (i : Int) ∧ rd l (i : Int) < (row.length : Int)) := fun h => q1 h.1
   rw [if_neg q1, if_neg q]
theorem full_walk (A0 : Option Addr) (c0 : Nat) (row : List S64) (A1 : Option Addr) (c1 : Nat) (cols : List Int) (r : Bool) (w : World) (hR : Kd.C k64 w A0 row.length row) (hc0 : row.length ≤ c0) (hC : Kd.C (Kd.int .i64) w A1 cols.length cols) (hc1 : cols.length ≤ c1) (h : fullP row cols = some r) :
  Calls Tryz.prog 165 #[.slice A0 row.length c0, .slice A1 cols.length c1] w fun e w' => e = .returned (.bool r) ∧ Below w.heap.size w w' := by
 have h1 := full_l row cols hC.2.1 cols.length 0 (cols.length + 1) (by omega) (by omega)
 refine (jointerref07_Full.calls (cols.length + 1) A0 c0 row A1 c1 cols r w hR hc0 hC hc1 (h1.trans (by simpa using h))).mono ?_
 rintro e w' ⟨rfl, m, rfl⟩
 exact ⟨rfl, pw_below_drewN (Below.refl _ _) _⟩
theorem same_is (x y : S64) : jointerref01_Same.f x.f0 x.f1 x.f2 y.f0 y.f1 y.f2 = some (decide (x = y)) := by
 unfold jointerref01_Same.f
 by_cases h : x = y
 ·rw [h, if_pos rfl, if_pos rfl, decide_eq_true rfl]
  simp
 ·rw [decide_eq_false h]
  by_cases h0 : x.f0 = y.f0
  ·rw [if_pos h0]
   by_cases h1 : x.f1 = y.f1
   ·rw [if_pos h1]
    have h2 : ¬ x.f2.toList = y.f2.toList := fun e => h (by cases x; cases y; simp at h0 h1; have := (ba_eq _ _).1 e; simp at this; rw [h0, h1, this])
    rw [beq_eq_false_iff_ne.mpr h2]
   ·rw [if_neg h1]
  ·rw [if_neg h0]
set_option maxHeartbeats 4000000 in
set_option maxRecDepth 100000 in
theorem alike_walk (A0 : Option Addr) (c0 : Nat) (a : List S64) (A1 : Option Addr) (c1 : Nat) (cols : List Int) (A2 : Option Addr) (c2 : Nat) (b : List S64) (A3 : Option Addr) (c3 : Nat) (key : List Int) (r : Bool) (w : World)
  (hA : Kd.C k64 w A0 a.length a) (hc0 : a.length ≤ c0) (hC : Kd.C (Kd.int .i64) w A1 cols.length cols) (hc1 : cols.length ≤ c1) (hB : Kd.C k64 w A2 b.length b) (hc2 : b.length ≤ c2) (hK : Kd.C (Kd.int .i64) w A3 key.length key) (hc3 : key.length ≤ c3) (h : alikeP a b cols key = some r) :
  Calls Tryz.prog 166 #[.slice A0 a.length c0, .slice A1 cols.length c1, .slice A2 b.length c2, .slice A3 key.length c3] w fun e w' => e = .returned (.bool r) ∧ Below w.heap.size w w' := by
 have HA := Aside0.mk hA
 have HC := Aside0.mk hC
 have HB := Aside0.mk hB
 have HK := Aside0.mk hK
 have hlen := hC.2.1
 have HH : Aside0 (alikeP a b (cols.drop 0) (key.drop 0) = some r) := ⟨by simpa using h⟩
 have HSM : Aside0 (∀ (x y : S64) (W : World), Calls Tryz.prog 126 #[.agg #[.int .u8 x.f0, .int .i64 x.f1, .string x.f2], .agg #[.int .u8 y.f0, .int .i64 y.f1, .string y.f2]] W fun e w' => e = .returned (.bool (decide (x = y))) ∧ Below W.heap.size W w') := ⟨fun x y W => jointerref01_Same.calls _ _ _ _ _ _ _ W (same_is x y)⟩
 clear hA hC hB hK h
 go_enter Tryz.func166, Tryz.ntmps166
 go_wp2
 go_loopg [9] cols.length (fun gk v9 wx => ∃ (i : Nat), i + gk = cols.length ∧ v9 = .int .i64 i ∧ Aside0 (Below w.heap.size w wx) ∧ Aside0 (alikeP a b (cols.drop i) (key.drop i) = some r))
 case atStart => exact ⟨0, by omega, rfl, ⟨Below.refl _ _⟩, HH⟩
 case round =>
  clear HH
  obtain ⟨i, hi, rfl, HW, HP⟩ := hrel
  cases gk with
  | zero =>
   have hp := HP.out
   rw [List.drop_eq_nil_of_le (by omega : cols.length ≤ i), alikeP] at hp
   obtain rfl := Option.some.inj hp
   have hii : ¬ (i : Int) < (cols.length : Int) := by omega
   clear hp HP
   go_wp2
   go_ret
   exact ⟨rfl, HW.out⟩
  | succ gi =>
   have hii : (i : Int) < (cols.length : Int) := by omega
   have hi0 : (0 : Int) ≤ (i : Int) := by omega
   have hp := HP.out
   rw [drop_rd (by omega)] at hp
   clear HP
   by_cases hik : i < key.length
   case neg => rw [List.drop_eq_nil_of_le (by omega : key.length ≤ i), alikeP] at hp; cases hp
   rw [drop_rd hik, alikeP] at hp
   have hik2 : (i : Int) < (key.length : Int) := by omega
   obtain ⟨ac, hac, hxc⟩ := Kd.at_int HC.out (i : Int) hi0 hii
   cases hac
   obtain ⟨aq, haq, hxq⟩ := Kd.at_int HK.out (i : Int) hi0 hik2
   cases haq
   rw [Int.toNat_natCast] at hxc hxq
   generalize rd cols (i : Int) = cc at *
   generalize rd key (i : Int) = qq at *
   by_cases q : 0 ≤ cc ∧ cc < (a.length : Int) ∧ 0 ≤ qq ∧ qq < (b.length : Int)
   case neg => rw [if_neg q] at hp; cases hp
   rw [if_pos q] at hp
   obtain ⟨n1, n2, n3, n4⟩ := q
   obtain ⟨aa, haa, u0, u1, u2⟩ := at_T64 HA.out cc n1 n2
   cases haa
   obtain ⟨ab, hab, v0, v1, v2⟩ := at_T64 HB.out qq n3 n4
   cases hab
   generalize rd_T64 a cc = x at *
   generalize rd_T64 b qq = y at *
   have KS : ∀ W, Below w.heap.size w W → W.cell? (ac.add i) = some (.int .i64 cc) ∧ W.cell? (aq.add i) = some (.int .i64 qq) ∧ W.cell? (aa.add (cc.toNat * 3)) = some (.int .u8 x.f0) ∧ W.cell? ⟨(aa.add (cc.toNat * 3)).block, (aa.add (cc.toNat * 3)).off + 1, none⟩ = some (.int .i64 x.f1) ∧ W.cell? ⟨(aa.add (cc.toNat * 3)).block, (aa.add (cc.toNat * 3)).off + 2, none⟩ = some (.string x.f2) ∧ W.cell? (ab.add (qq.toNat * 3)) = some (.int .u8 y.f0) ∧ W.cell? ⟨(ab.add (qq.toNat * 3)).block, (ab.add (qq.toNat * 3)).off + 1, none⟩ = some (.int .i64 y.f1) ∧ W.cell? ⟨(ab.add (qq.toNat * 3)).block, (ab.add (qq.toNat * 3)).off + 2, none⟩ = some (.string y.f2) := fun W hW =>
    ⟨(hW.cell (World.block_lt_of_cell? w _ hxc)).trans hxc, (hW.cell (World.block_lt_of_cell? w _ hxq)).trans hxq, (hW.cell (World.block_lt_of_cell? w _ u0)).trans u0, (hW.cell (World.block_lt_of_cell? w _ u1)).trans u1, (hW.cell (World.block_lt_of_cell? w _ u2)).trans u2, (hW.cell (World.block_lt_of_cell? w _ v0)).trans v0, (hW.cell (World.block_lt_of_cell? w _ v1)).trans v1, (hW.cell (World.block_lt_of_cell? w _ v2)).trans v2⟩
   have HN : Aside0 (∀ W, Calls Tryz.prog 126 #[.agg #[.int .u8 x.f0, .int .i64 x.f1, .string x.f2], .agg #[.int .u8 y.f0, .int .i64 y.f1, .string y.f2]] W fun e w' => e = .returned (.bool (decide (x = y))) ∧ Below W.heap.size W w') := ⟨fun W => HSM.out x y W⟩
   have HP : Aside0 ((if decide (x = y) = true then alikeP a b (cols.drop (i + 1)) (key.drop (i + 1)) else some false) = some r) := ⟨by rw [← hp]; by_cases e : x = y <;> simp [e]⟩
   generalize decide (x = y) = bb at *
   clear hp hxc hxq u0 u1 u2 v0 v1 v2
   go_wp2
   go_region_held3 (fun W => W.cell? (ac.add i) = some (.int .i64 cc) ∧ W.cell? (aq.add i) = some (.int .i64 qq) ∧ W.cell? (aa.add (cc.toNat * 3)) = some (.int .u8 x.f0) ∧ W.cell? ⟨(aa.add (cc.toNat * 3)).block, (aa.add (cc.toNat * 3)).off + 1, none⟩ = some (.int .i64 x.f1) ∧ W.cell? ⟨(aa.add (cc.toNat * 3)).block, (aa.add (cc.toNat * 3)).off + 2, none⟩ = some (.string x.f2) ∧ W.cell? (ab.add (qq.toNat * 3)) = some (.int .u8 y.f0) ∧ W.cell? ⟨(ab.add (qq.toNat * 3)).block, (ab.add (qq.toNat * 3)).off + 1, none⟩ = some (.int .i64 y.f1) ∧ W.cell? ⟨(ab.add (qq.toNat * 3)).block, (ab.add (qq.toNat * 3)).off + 2, none⟩ = some (.string y.f2)) (first | exact KS _ (below_drew1 HW.out) | exact KS _ (below_step (below_drew1 HW.out) hb1)) ((go_at_call 126; refine (HN.out _).mono ?_; rintro e w1 ⟨rfl, hb1⟩))
   have HW2 := Aside0.mk (below_step (below_drew1 HW.out) hb1)
   clear hb1 KS
   cases bb with
   | false =>
    have hp := HP.out
    rw [if_neg (by decide)] at hp
    obtain rfl := Option.some.inj hp
    clear hp
    go_wp2
    go_ret
    exact ⟨rfl, HW2.out⟩
   | true =>
    have hp := HP.out
    rw [if_pos rfl] at hp
    have HP2 := Aside0.mk hp
    clear hp
    go_wp2
    go_roundg gi
    case measure => omega
    case rel => exact ⟨i + 1, by omega, ret_n (by omega), HW2, HP2⟩
def khIn (x : List S64) (key : List Int) : List (List S64) → Option Bool
 | [] => some false
 | y :: r => (alikeP x y key key).bind fun b => if b = true then some true else khIn x key r
def khP (rows : List (List S64)) (key : List Int) : Nat → Nat → Option Bool
 | 0, _ => some true
 | g + 1, i => (fullP (rd_L12 rows i) key).bind fun f => if f = true then ((khIn (rd_L12 rows i) key (rows.take i)).bind fun b => if b = true then some false else khP rows key g (i + 1)) else khP rows key g (i + 1)
theorem rdL12 {l : List (List S64)} {i : Nat} (h : i < l.length) : rd_L12 l (i : Int) = l[i] := by unfold rd_L12; simp [List.getD, h]
theorem rows_drop {l : List (List S64)} {i j : Nat} (h : j < i) (hi : i ≤ l.length) : (l.take i).drop j = rd_L12 l (j : Int) :: (l.take i).drop (j + 1) := by
 rw [List.drop_eq_getElem_cons (by rw [List.length_take]; omega)]
 congr 1
 rw [List.getElem_take, rdL12 (by omega)]
set_option maxHeartbeats 4000000 in
set_option maxRecDepth 100000 in
theorem keyHolds_walk (A0 : Option Addr) (c0 : Nat) (rows : List (List S64)) (A1 : Option Addr) (c1 : Nat) (key : List Int) (r : Bool) (w : World)
  (hA : Kd.C (Kd.slice 87 k64) w A0 rows.length rows) (hc0 : rows.length ≤ c0) (hC : Kd.C (Kd.int .i64) w A1 key.length key) (hc1 : key.length ≤ c1) (h : khP rows key rows.length 0 = some r) :
  Calls Tryz.prog 136 #[.slice A0 rows.length c0, .slice A1 key.length c1] w fun e w' => e = .returned (.bool r) ∧ Below w.heap.size w w' := by
 have HA := Aside0.mk hA
 have HC := Aside0.mk hC
 have hlen := hA.2.1
 have HH := Aside0.mk h
 clear hA hC h
 go_enter Tryz.func136, Tryz.ntmps136
 go_wp2
 go_loopg [5] rows.length (fun gk v5 wx => ∃ (i : Nat), i + gk = rows.length ∧ v5 = .int .i64 i ∧ Aside0 (Below w.heap.size w wx) ∧ Aside0 (khP rows key gk i = some r))
 case atStart => exact ⟨0, by omega, rfl, ⟨Below.refl _ _⟩, HH⟩
 case round =>
  clear HH
  obtain ⟨i, hi, rfl, HW, HP⟩ := hrel
  cases gk with
  | zero =>
   have hp := HP.out
   rw [khP] at hp
   obtain rfl := Option.some.inj hp
   have hii : ¬ (i : Int) < (rows.length : Int) := by omega
   clear hp HP
   go_wp2
   go_ret
   exact ⟨rfl, HW.out⟩
  | succ gi =>
   have hii : (i : Int) < (rows.length : Int) := by omega
   have hi0 : (0 : Int) ≤ (i : Int) := by omega
   have hp := HP.out
   rw [khP] at hp
   clear HP
   obtain ⟨f, hf, hp⟩ := Option.bind_eq_some_iff.mp hp
   obtain ⟨ad, Ar, cr, had, hx, hcr, hCr⟩ := at_L12 HA.out (i : Int) hi0 hii
   cases had
   rw [Int.toNat_natCast] at hx
   generalize hrow : rd_L12 rows (i : Int) = row at *
   have HF := Aside0.mk (full_walk Ar cr row A1 c1 key f wr (Kd.C_below hCr HW.out) hcr (Kd.C_below HC.out HW.out) hc1 hf)
   have HX : Aside0 (∀ W, Below w.heap.size w W → W.cell? (ad.add i) = some (.slice Ar row.length cr)) := ⟨fun W hW => (hW.cell (World.block_lt_of_cell? w _ hx)).trans hx⟩
   have x0 := HX.out wr HW.out
   have HRW := Aside0.mk hCr
   have HP := Aside0.mk hp
   clear hf hp hx hCr hrow
   cases f with
   | false =>
    have hp := HP.out
    rw [if_neg (by decide)] at hp
    have HP2 := Aside0.mk hp
    clear hp
    go_wp2_with (go_at_call 165; refine HF.out.mono ?_; rintro e w1 ⟨rfl, hb1⟩)
    go_roundg gi
    case measure => omega
    case rel => exact ⟨i + 1, by omega, ret_n (by omega), ⟨below_step HW.out hb1⟩, HP2⟩
   | true =>
    have hp := HP.out
    rw [if_pos rfl] at hp
    have HP2 : Aside0 ((khIn row key ((rows.take i).drop 0)).bind (fun b => if b = true then some false else khP rows key gi (i + 1)) = some r) := ⟨by simpa using hp⟩
    clear hp
    go_wp2_with (go_at_call 165; refine HF.out.mono ?_; rintro e w1 ⟨rfl, hb1⟩)
    have HW1 := Aside0.mk (below_step HW.out hb1)
    clear hb1 HF HW x0 HP
    go_loopg [6] i (fun gj v6 wx => ∃ (j : Nat), j + gj = i ∧ v6 = .int .i64 j ∧ Aside0 (Below w.heap.size w wx) ∧ Aside0 ((khIn row key ((rows.take i).drop j)).bind (fun b => if b = true then some false else khP rows key gi (i + 1)) = some r))
    case atStart => exact ⟨0, by omega, rfl, HW1, HP2⟩
    case round =>
     clear HW1 HP2
     obtain ⟨j, hj, rfl, HW, HP⟩ := hrel
     have x0 := HX.out wr HW.out
     cases gk with
     | zero =>
      have hp := HP.out
      rw [List.drop_eq_nil_of_le (by rw [List.length_take]; omega), khIn, Option.bind_some, if_neg (by decide)] at hp
      have HP2 := Aside0.mk hp
      have hjj : ¬ (j : Int) < (i : Int) := by omega
      clear hp HP
      go_wp2
      go_roundg gi
      case measure => omega
      case rel => exact ⟨i + 1, by omega, ret_n (by omega), HW, HP2⟩
     | succ gj =>
      have hjj : (j : Int) < (i : Int) := by omega
      have hj0 : (0 : Int) ≤ (j : Int) := by omega
      have hjl : (j : Int) < (rows.length : Int) := by omega
      obtain ⟨ad2, Aw, cw, had2, hxw, hcw, hCw⟩ := at_L12 HA.out (j : Int) hj0 hjl
      cases had2
      rw [Int.toNat_natCast] at hxw
      have hp := HP.out
      rw [rows_drop (by omega) (by omega), khIn] at hp
      clear HP
      generalize rd_L12 rows (j : Int) = other at *
      rw [Option.bind_assoc] at hp
      obtain ⟨b, hb, hp⟩ := Option.bind_eq_some_iff.mp hp
      have HN : Aside0 (∀ W, Below w.heap.size w W → Calls Tryz.prog 166 #[.slice Ar row.length cr, .slice A1 key.length c1, .slice Aw other.length cw, .slice A1 key.length c1] W fun e w' => e = .returned (.bool b) ∧ Below W.heap.size W w') := ⟨fun W hW => alike_walk Ar cr row A1 c1 key Aw cw other A1 c1 key b W (Kd.C_below HRW.out hW) hcr (Kd.C_below HC.out hW) hc1 (Kd.C_below hCw hW) hcw (Kd.C_below HC.out hW) hc1 hb⟩
      have KS : ∀ W, Below w.heap.size w W → W.cell? (ad.add i) = some (.slice Ar row.length cr) ∧ W.cell? (ad.add j) = some (.slice Aw other.length cw) := fun W hW => ⟨HX.out W hW, (hW.cell (World.block_lt_of_cell? w _ hxw)).trans hxw⟩
      have HP := Aside0.mk hp
      clear hp hb hCw hxw x0
      go_wp2
      go_region_held3 (fun W => W.cell? (ad.add i) = some (.slice Ar row.length cr) ∧ W.cell? (ad.add j) = some (.slice Aw other.length cw)) (first | exact KS _ (below_drew1 HW.out) | exact KS _ (below_step (below_drew1 HW.out) hb1)) ((go_at_call 166; refine (HN.out _ (below_drew1 HW.out)).mono ?_; rintro e w1 ⟨rfl, hb1⟩))
      have HW2 := Aside0.mk (below_step (below_drew1 HW.out) hb1)
      clear hb1 KS
      cases b with
      | true =>
       have hp := HP.out
       rw [if_pos rfl, Option.bind_some, if_pos rfl] at hp
       obtain rfl := Option.some.inj hp
       clear hp
       go_wp2
       go_ret
       exact ⟨rfl, HW2.out⟩
      | false =>
       have hp := HP.out
       rw [if_neg (by decide)] at hp
       have HP2 := Aside0.mk hp
       clear hp
       go_wp2
       go_roundg gj
       case measure => omega
       case rel => exact ⟨j + 1, by omega, ret_n (by omega), HW2, HP2⟩
def refKeysP (rows : List (List S64)) : List (List Int) → Option Bool
 | [] => some true
 | k :: r => (khP rows k rows.length 0).bind fun b => if b = true then refKeysP rows r else some false
set_option maxHeartbeats 4000000 in
set_option maxRecDepth 100000 in
theorem refKeys_walk (A0 : Option Addr) (c0 : Nat) (s : List S49) (A1 : Option Addr) (c1 : Nat) (d : List (List (List S64))) (n : Nat) (r : Bool) (w : World)
  (hS : Kd.C k49 w A0 s.length s) (hc0 : s.length ≤ c0) (hD : Kd.C (Kd.slice 89 (Kd.slice 87 k64)) w A1 d.length d) (hc1 : d.length ≤ c1) (hn : n < s.length) (hnd : n < d.length) (h : refKeysP (rd_L13 d n) (rd_T49 s n).f2 = some r) :
  Calls Tryz.prog 80 #[.slice A0 s.length c0, .slice A1 d.length c1, .int .i64 n] w fun e w' => e = .returned (.bool r) ∧ Below w.heap.size w w' := by
 have hn0 : (0 : Int) ≤ (n : Int) := by omega
 have hn1 : (n : Int) < (s.length : Int) := by omega
 have hn2 : (n : Int) < (d.length : Int) := by omega
 obtain ⟨an, N1, n1, N2, n2, N3, n3, N4, n4, hAn, hz0, hz1, hz2, hz3, hz4, m1, l1_, m2, l2_, m3, l3_, m4, l4_⟩ := at_T49 hS (n : Int) hn0 hn1
 cases hAn
 obtain ⟨ad, Ar, cr, had, hx, hcr, hCr⟩ := at_L13 hD (n : Int) hn0 hn2
 cases had
 rw [Int.toNat_natCast] at hz2 hx
 generalize rd_T49 s (n : Int) = t at *
 generalize rd_L13 d (n : Int) = rows at *
 have L2 := Aside0.mk l2_
 have LR := Aside0.mk hCr
 have hlen := l2_.2.1
 have KX : Aside0 (∀ W, Below w.heap.size w W → W.cell? ⟨(an.add (n * 5)).block, (an.add (n * 5)).off + 2, none⟩ = some (.slice N2 t.f2.length n2) ∧ W.cell? (ad.add n) = some (.slice Ar rows.length cr)) := ⟨fun W hW =>
  ⟨(hW.cell (World.block_lt_of_cell? w _ hz2)).trans hz2, (hW.cell (World.block_lt_of_cell? w _ hx)).trans hx⟩⟩
 have HH : Aside0 (refKeysP rows (t.f2.drop 0) = some r) := ⟨by simpa using h⟩
 clear hS hD h hz0 hz1 hz2 hz3 hz4 l1_ l2_ l3_ l4_ hx hCr
 go_enter Tryz.func80, Tryz.ntmps80
 go_wp2
 go_loopg [7] t.f2.length (fun gk v7 wx => ∃ (i : Nat), i + gk = t.f2.length ∧ v7 = .int .i64 i ∧ Aside0 (Below w.heap.size w wx) ∧ Aside0 (refKeysP rows (t.f2.drop i) = some r))
 case atStart => exact ⟨0, by omega, rfl, ⟨Below.refl _ _⟩, HH⟩
 case round =>
  clear HH
  obtain ⟨i, hi, rfl, HW, HP⟩ := hrel
  obtain ⟨x0, x1⟩ := KX.out wr HW.out
  cases gk with
  | zero =>
   have hp := HP.out
   rw [List.drop_eq_nil_of_le (by omega), refKeysP] at hp
   obtain rfl := Option.some.inj hp
   have hii : ¬ (i : Int) < (t.f2.length : Int) := by omega
   clear hp HP
   go_wp2
   go_ret
   exact ⟨rfl, HW.out⟩
  | succ gi =>
   have hii : (i : Int) < (t.f2.length : Int) := by omega
   have hi0 : (0 : Int) ≤ (i : Int) := by omega
   obtain ⟨ak, Ak, ck, hAk, hk, hck, hCk⟩ := at_L6 L2.out (i : Int) hi0 hii
   cases hAk
   rw [Int.toNat_natCast] at hk
   have hp := HP.out
   rw [List.drop_eq_getElem_cons (by omega), refKeysP, ← rdL6 (by omega)] at hp
   clear HP
   generalize rd_L6 t.f2 (i : Int) = key at *
   obtain ⟨b, hb, hp⟩ := Option.bind_eq_some_iff.mp hp
   have HN : Aside0 (∀ W, Below w.heap.size w W → Calls Tryz.prog 136 #[.slice Ar rows.length cr, .slice Ak key.length ck] W fun e w' => e = .returned (.bool b) ∧ Below W.heap.size W w') := ⟨fun W hW => keyHolds_walk Ar cr rows Ak ck key b W (Kd.C_below LR.out hW) hcr (Kd.C_below hCk hW) hck hb⟩
   have KS : ∀ W, Below w.heap.size w W → W.cell? ⟨(an.add (n * 5)).block, (an.add (n * 5)).off + 2, none⟩ = some (.slice (some ak) t.f2.length n2) ∧ W.cell? (ad.add n) = some (.slice Ar rows.length cr) ∧ W.cell? (ak.add i) = some (.slice Ak key.length ck) := fun W hW => ⟨(KX.out W hW).1, (KX.out W hW).2, (hW.cell (World.block_lt_of_cell? w _ hk)).trans hk⟩
   have HP := Aside0.mk hp
   clear hp hb hCk hk
   go_wp2
   clear x0 x1
   go_region_held3 (fun W => W.cell? ⟨(an.add (n * 5)).block, (an.add (n * 5)).off + 2, none⟩ = some (.slice (some ak) t.f2.length n2) ∧ W.cell? (ad.add n) = some (.slice Ar rows.length cr) ∧ W.cell? (ak.add i) = some (.slice Ak key.length ck)) (first | exact KS _ (below_drew1 HW.out) | exact KS _ (below_step (below_drew1 HW.out) hb1)) ((go_at_call 136; refine (HN.out _ (below_drew1 HW.out)).mono ?_; rintro e w1 ⟨rfl, hb1⟩))
   have HW2 := Aside0.mk (below_step (below_drew1 HW.out) hb1)
   clear hb1 KS
   cases b with
   | false =>
    have hp := HP.out
    rw [if_neg (by decide)] at hp
    obtain rfl := Option.some.inj hp
    clear hp
    go_wp2
    go_ret
    exact ⟨rfl, HW2.out⟩
   | true =>
    have hp := HP.out
    rw [if_pos rfl] at hp
    have HP2 := Aside0.mk hp
    clear hp
    go_wp2
    go_roundg gi
    case measure => omega
    case rel => exact ⟨i + 1, by omega, ret_n (by omega), HW2, HP2⟩
def rhIn (row : List S64) (cols key : List Int) : Bool → List (List S64) → Option Bool
 | is, [] => some is
 | true, _ :: _ => some true
 | false, y :: r => (alikeP row y cols key).bind fun b => rhIn row cols key b r
def rhP (cols : List Int) (others : List (List S64)) (key : List Int) : List (List S64) → Option Bool
 | [] => some true
 | row :: l => (fullP row cols).bind fun f => (rhIn row cols key (!f) others).bind fun b => if b = true then rhP cols others key l else some false
set_option maxHeartbeats 4000000 in
set_option maxRecDepth 100000 in
theorem refHolds_walk (A0 : Option Addr) (c0 : Nat) (rows : List (List S64)) (A1 : Option Addr) (c1 : Nat) (cols : List Int) (A2 : Option Addr) (c2 : Nat) (others : List (List S64)) (A3 : Option Addr) (c3 : Nat) (key : List Int) (r : Bool) (w : World)
  (hA : Kd.C (Kd.slice 87 k64) w A0 rows.length rows) (hc0 : rows.length ≤ c0) (hC : Kd.C (Kd.int .i64) w A1 cols.length cols) (hc1 : cols.length ≤ c1)
  (hB : Kd.C (Kd.slice 87 k64) w A2 others.length others) (hc2 : others.length ≤ c2) (hK : Kd.C (Kd.int .i64) w A3 key.length key) (hc3 : key.length ≤ c3) (h : rhP cols others key rows = some r) :
  Calls Tryz.prog 137 #[.slice A0 rows.length c0, .slice A1 cols.length c1, .slice A2 others.length c2, .slice A3 key.length c3] w fun e w' => e = .returned (.bool r) ∧ Below w.heap.size w w' := by
 have HA := Aside0.mk hA
 have HC := Aside0.mk hC
 have HB := Aside0.mk hB
 have HK := Aside0.mk hK
 have hlen := hA.2.1
 have hlen2 := hB.2.1
 have HH : Aside0 (rhP cols others key (rows.drop 0) = some r) := ⟨by simpa using h⟩
 clear hA hC hB hK h
 go_enter Tryz.func137, Tryz.ntmps137
 go_wp2
 go_loopg [9] rows.length (fun gk v9 wx => ∃ (i : Nat), i + gk = rows.length ∧ v9 = .int .i64 i ∧ Aside0 (Below w.heap.size w wx) ∧ Aside0 (rhP cols others key (rows.drop i) = some r))
 case atStart => exact ⟨0, by omega, rfl, ⟨Below.refl _ _⟩, HH⟩
 case round =>
  clear HH
  obtain ⟨i, hi, rfl, HW, HP⟩ := hrel
  cases gk with
  | zero =>
   have hp := HP.out
   rw [List.drop_eq_nil_of_le (by omega), rhP] at hp
   obtain rfl := Option.some.inj hp
   have hii : ¬ (i : Int) < (rows.length : Int) := by omega
   clear hp HP
   go_wp2
   go_ret
   exact ⟨rfl, HW.out⟩
  | succ gi =>
   have hii : (i : Int) < (rows.length : Int) := by omega
   have hi0 : (0 : Int) ≤ (i : Int) := by omega
   have hp := HP.out
   rw [List.drop_eq_getElem_cons (by omega), rhP, ← rdL12 (by omega)] at hp
   clear HP
   obtain ⟨f, hf, hp⟩ := Option.bind_eq_some_iff.mp hp
   obtain ⟨ad, Ar, cr, had, hx, hcr, hCr⟩ := at_L12 HA.out (i : Int) hi0 hii
   cases had
   rw [Int.toNat_natCast] at hx
   generalize rd_L12 rows (i : Int) = row at *
   have HF := Aside0.mk (full_walk Ar cr row A1 c1 cols f wr (Kd.C_below hCr HW.out) hcr (Kd.C_below HC.out HW.out) hc1 hf)
   have HX : Aside0 (∀ W, Below w.heap.size w W → W.cell? (ad.add i) = some (.slice Ar row.length cr)) := ⟨fun W hW => (hW.cell (World.block_lt_of_cell? w _ hx)).trans hx⟩
   have x0 := HX.out wr HW.out
   have HRW := Aside0.mk hCr
   have HP : Aside0 ((rhIn row cols key (!f) (others.drop 0)).bind (fun b => if b = true then rhP cols others key (rows.drop (i + 1)) else some false) = some r) := ⟨by simpa using hp⟩
   clear hf hp hx hCr
   go_wp2_with (go_at_call 165; refine HF.out.mono ?_; rintro e w1 ⟨rfl, hb1⟩)
   have HW1 := Aside0.mk (below_step HW.out hb1)
   clear hb1 HF HW x0
   go_loopg [10, 11] others.length (fun gj v10 v11 wx => ∃ (j : Nat) (b : Bool), j + gj = others.length ∧ v10 = .bool b ∧ v11 = .int .i64 j ∧ Aside0 (Below w.heap.size w wx) ∧ Aside0 ((rhIn row cols key b (others.drop j)).bind (fun b => if b = true then rhP cols others key (rows.drop (i + 1)) else some false) = some r))
   case atStart => exact ⟨0, !f, by omega, rfl, rfl, HW1, HP⟩
   case round =>
    clear HW1 HP
    obtain ⟨j, b, hj, rfl, rfl, HW, HP⟩ := hrel
    have x0 := HX.out wr HW.out
    have OUT : Aside0 ((b = true ∨ ¬ (j : Int) < (others.length : Int)) → (if b = true then rhP cols others key (rows.drop (i + 1)) else some false) = some r) := ⟨fun ho => by
     have hp := HP.out
     by_cases hjl : j < others.length
     ·rcases ho with rfl | ho
      ·rw [List.drop_eq_getElem_cons hjl, rhIn, Option.bind_some] at hp; exact hp
      ·exact absurd (by omega) ho
     ·rw [List.drop_eq_nil_of_le (by omega), rhIn, Option.bind_some] at hp; exact hp⟩
    by_cases hjj : (j : Int) < (others.length : Int)
    ·cases b with
     | true =>
      have HP2 : Aside0 (rhP cols others key (rows.drop (i + 1)) = some r) := ⟨by simpa using OUT.out (.inl rfl)⟩
      clear OUT HP
      go_wp2
      go_roundg gi
      case measure => omega
      case rel => exact ⟨i + 1, by omega, ret_n (by omega), HW, HP2⟩
     | false =>
      cases gk with
      | zero => exact absurd hjj (by omega)
      | succ gj =>
      clear OUT
      have hj0 : (0 : Int) ≤ (j : Int) := by omega
      obtain ⟨ad2, Aw, cw, had2, hxw, hcw, hCw⟩ := at_L12 HB.out (j : Int) hj0 hjj
      cases had2
      rw [Int.toNat_natCast] at hxw
      have hp := HP.out
      rw [List.drop_eq_getElem_cons (by omega), rhIn, ← rdL12 (by omega), Option.bind_assoc] at hp
      clear HP
      generalize rd_L12 others (j : Int) = other at *
      obtain ⟨b, hb, hp⟩ := Option.bind_eq_some_iff.mp hp
      have HN : Aside0 (∀ W, Below w.heap.size w W → Calls Tryz.prog 166 #[.slice Ar row.length cr, .slice A1 cols.length c1, .slice Aw other.length cw, .slice A3 key.length c3] W fun e w' => e = .returned (.bool b) ∧ Below W.heap.size W w') := ⟨fun W hW => alike_walk Ar cr row A1 c1 cols Aw cw other A3 c3 key b W (Kd.C_below HRW.out hW) hcr (Kd.C_below HC.out hW) hc1 (Kd.C_below hCw hW) hcw (Kd.C_below HK.out hW) hc3 hb⟩
      have KS : ∀ W, Below w.heap.size w W → W.cell? (ad.add i) = some (.slice Ar row.length cr) ∧ W.cell? (ad2.add j) = some (.slice Aw other.length cw) := fun W hW => ⟨HX.out W hW, (hW.cell (World.block_lt_of_cell? w _ hxw)).trans hxw⟩
      have HP := Aside0.mk hp
      clear hp hb hCw hxw x0
      go_wp2
      go_region_held3 (fun W => W.cell? (ad.add i) = some (.slice Ar row.length cr) ∧ W.cell? (ad2.add j) = some (.slice Aw other.length cw)) (first | exact KS _ (below_drew1 HW.out) | exact KS _ (below_step (below_drew1 HW.out) hb1)) ((go_at_call 166; refine (HN.out _ (below_drew1 HW.out)).mono ?_; rintro e w1 ⟨rfl, hb1⟩))
      have HW2 := Aside0.mk (below_step (below_drew1 HW.out) hb1)
      clear hb1 KS
      go_wp2
      go_roundg gj
      case measure => omega
      case rel => exact ⟨j + 1, b, by omega, rfl, ret_n (by omega), HW2, HP⟩
    ·have HP2 := Aside0.mk (OUT.out (.inr hjj))
     clear OUT HP
     cases b with
     | true =>
      have hp := HP2.out
      rw [if_pos rfl] at hp
      have HP3 := Aside0.mk hp
      clear hp HP2
      go_wp2
      go_roundg gi
      case measure => omega
      case rel => exact ⟨i + 1, by omega, ret_n (by omega), HW, HP3⟩
     | false =>
      have hp := HP2.out
      rw [if_neg (by decide)] at hp
      obtain rfl := Option.some.inj hp
      clear hp HP2
      go_wp2
      go_ret
      exact ⟨rfl, HW.out⟩
def rowsFitP (t : S49) : List (List S64) → Bool
 | [] => true
 | row :: r => if fitsRowP t.f1 row = 0 then rowsFitP t r else false
def dataFitP : List S49 → List (List (List S64)) → Bool
 | t :: s, rows :: d => if (rows.length : Int) > 1000 then false else if rowsFitP t rows = true then dataFitP s d else false
 | _, _ => true
def holdsP (s : List S49) (d : List (List (List S64))) : Nat → List (List (List S64)) → Option Bool
 | _, [] => some true
 | n, rows :: r => (keysP rows (rd_T49 s n).f2).bind fun a => if a = true then (refsP s d n (rd_T49 s n).f3).bind fun b => if b = true then holdsP s d (n + 1) r else some false else some false
def dataP (k : Nat) (s : List S49) (d : List (List (List S64))) : Option Bool :=
 (scheme_Valid.f k s).bind fun v => if v = true then (if d.length = s.length then (if dataFitP s d = true then holdsP s d 0 d else some false) else some false) else some false
set_option maxHeartbeats 4000000 in
set_option maxRecDepth 100000 in
theorem validData_walk (k : Nat) (A0 : Option Addr) (c0 : Nat) (s : List S49) (A1 : Option Addr) (c1 : Nat) (d : List (List (List S64))) (r : Bool) (w : World)
  (hS : Kd.C k49 w A0 s.length s) (hc0 : s.length ≤ c0) (hD : Kd.C (Kd.slice 89 (Kd.slice 87 k64)) w A1 d.length d) (hc1 : d.length ≤ c1) (hwf : ∀ rows ∈ d, ∀ row ∈ rows, ∀ x ∈ row, wfV x) (hL : LaidL w) (h : dataP k s d = some r) :
  Calls Tryz.prog 29 #[.slice A0 s.length c0, .slice A1 d.length c1] w fun e w' => e = .returned (.bool r) ∧ Below w.heap.size w w' := by
 have HS := Aside0.mk hS
 have HD := Aside0.mk hD
 have HWF := Aside0.mk hwf
 have HB0 := Aside0.mk (Below.refl w.heap.size w)
 unfold dataP at h
 obtain ⟨v, hv, h⟩ := Option.bind_eq_some_iff.mp h
 have HV := Aside0.mk (scheme_Valid.calls k A0 c0 s v w hS hc0 hv hL)
 have HH := Aside0.mk h
 clear hS hD hwf hL h hv
 go_enter Tryz.func29, Tryz.ntmps29
 cases v with
 | false =>
  have h := HH.out
  rw [if_neg (by decide)] at h
  obtain rfl := Option.some.inj h
  clear h
  go_wp2_with (go_at_call 28; refine HV.out.mono ?_; rintro e w1 ⟨rfl, hb1⟩)
  go_ret
  exact ⟨rfl, hb1⟩
 | true =>
  have h := HH.out
  rw [if_pos rfl] at h
  by_cases q : d.length = s.length
  case neg =>
   rw [if_neg q] at h
   obtain rfl := Option.some.inj h
   have qi : ¬ ((d.length : Int) = (s.length : Int)) := by omega
   have d1 : ((d.length : Int) == (s.length : Int)) = false := beq_eq_false_iff_ne.mpr qi
   have d2 : ((d.length : Int) != (s.length : Int)) = true := bne_iff_ne.mpr qi
   clear h HH q qi
   go_wp2_with (go_at_call 28; refine HV.out.mono ?_; rintro e w1 ⟨rfl, hb1⟩)
   go_ret
   exact ⟨rfl, hb1⟩
  rw [if_pos q] at h
  have qi : ((d.length : Int) = (s.length : Int)) := by omega
  have d1 : ((d.length : Int) == (s.length : Int)) = true := beq_iff_eq.mpr qi
  have d2 : ((d.length : Int) != (s.length : Int)) = false := by rw [bne, d1]; rfl
  have HQ := Aside0.mk q
  have HP := Aside0.mk h
  clear h HH q qi
  go_wp2_with (go_at_call 28; refine HV.out.mono ?_; rintro e w1 ⟨rfl, hb1⟩)
  have HB1 := Aside0.mk hb1
  clear hb1 d1 d2 HV HB0
  go_loopg [23] d.length (fun gk v23 wx => ∃ (n : Nat), n + gk = d.length ∧ v23 = .int .i64 n ∧ Aside0 (Below w.heap.size w wx) ∧ Aside0 ((if dataFitP (s.drop n) (d.drop n) = true then holdsP s d 0 d else some false) = some r))
  case atStart => exact ⟨0, by omega, rfl, HB1, by simpa using HP⟩
  case round =>
   clear HB1 HP
   obtain ⟨n, hn, rfl, HW, HP⟩ := hrel
   cases gk with
   | succ gk =>
    have hlt : n < d.length := by omega
    have hlts : n < s.length := by have := HQ.out; omega
    have hii : (n : Int) < (d.length : Int) := by omega
    have his : (n : Int) < (s.length : Int) := by omega
    have hi0 : (0 : Int) ≤ (n : Int) := by omega
    have hdr : d.drop n = d[n] :: d.drop (n + 1) := List.drop_eq_getElem_cons hlt
    have hds : s.drop n = s[n] :: s.drop (n + 1) := List.drop_eq_getElem_cons hlts
    have hrd : rd_L13 d (n : Int) = d[n] := by unfold rd_L13; simp [List.getD, hlt]
    have hrs : rd_T49 s (n : Int) = s[n] := by unfold rd_T49; simp [List.getD, hlts]
    obtain ⟨ad, Ar, cr, hA, hx, hcr, hCr⟩ := at_L13 HD.out (n : Int) hi0 hii
    cases hA
    rw [hrd] at hx hcr hCr
    rw [Int.toNat_natCast] at hx
    replace hx := (HW.out.cell (World.block_lt_of_cell? w _ hx)).trans hx
    have hp := HP.out
    rw [hdr, hds, dataFitP] at hp
    generalize d[n] = rows at *
    have HCR := Aside0.mk hCr
    by_cases q : (rows.length : Int) > 1000
    ·rw [if_pos q, if_neg (by decide)] at hp
     obtain rfl := Option.some.inj hp
     have d1 : decide (1000 < (rows.length : Int)) = true := decide_eq_true q
     clear hp HP q hCr
     go_wp2
     go_ret
     exact ⟨rfl, HW.out⟩
    rw [if_neg q] at hp
    have d1 : decide (1000 < (rows.length : Int)) = false := decide_eq_false q
    obtain ⟨at_, A1, c1_, A2, c2, A3, c3, A4, c4, hAt, hy0, hy1, hy2, hy3, hy4, g1, h1, g2, h2, g3, h3, g4, h4⟩ := at_T49 HS.out (n : Int) hi0 his
    cases hAt
    rw [hrs] at hy0 hy1 hy2 hy3 hy4 g1 h1 g2 h2 g3 h3 g4 h4
    rw [Int.toNat_natCast] at hy0 hy1 hy2 hy3 hy4
    generalize s[n] = t at *
    have HF : Aside0 (∀ (A : Option Addr) (c : Nat) (row : List S64) (W : World), Below w.heap.size w W → Kd.C k64 W A row.length row → row.length ≤ c → Calls Tryz.prog 69 #[.agg #[.string t.f0, .slice A1 t.f1.length c1_, .slice A2 t.f2.length c2, .slice A3 t.f3.length c3, .slice A4 t.f4.length c4], .slice A row.length c] W fun e w' => e = .returned (.int .i64 (fitsRowP t.f1 row)) ∧ Below W.heap.size W w') := ⟨fun A c row W hW hC hc => fitsRow_walk t.f0 A1 c1_ t.f1 A2 _ c2 A3 _ c3 A4 _ c4 A c row W (Kd.C_below h1 hW) g1 hC hc⟩
    have HY : Aside0 (∀ W, Below w.heap.size w W → W.cell? (at_.add (n * 5)) = some (.string t.f0) ∧ W.cell? ⟨(at_.add (n * 5)).block, (at_.add (n * 5)).off + 1, none⟩ = some (.slice A1 t.f1.length c1_) ∧ W.cell? ⟨(at_.add (n * 5)).block, (at_.add (n * 5)).off + 2, none⟩ = some (.slice A2 t.f2.length c2) ∧ W.cell? ⟨(at_.add (n * 5)).block, (at_.add (n * 5)).off + 3, none⟩ = some (.slice A3 t.f3.length c3) ∧ W.cell? ⟨(at_.add (n * 5)).block, (at_.add (n * 5)).off + 4, none⟩ = some (.slice A4 t.f4.length c4)) := ⟨fun W hB =>
     ⟨(hB.cell (World.block_lt_of_cell? w _ hy0)).trans hy0, (hB.cell (World.block_lt_of_cell? w _ hy1)).trans hy1, (hB.cell (World.block_lt_of_cell? w _ hy2)).trans hy2, (hB.cell (World.block_lt_of_cell? w _ hy3)).trans hy3, (hB.cell (World.block_lt_of_cell? w _ hy4)).trans hy4⟩⟩
    have HP1 : Aside0 ((if rowsFitP t rows = true then (if dataFitP (s.drop (n + 1)) (d.drop (n + 1)) = true then holdsP s d 0 d else some false) else some false) = some r) := ⟨by
     rw [← hp]
     by_cases q1 : rowsFitP t rows = true
     ·rw [if_pos q1, if_pos q1]
     ·rw [if_neg q1, if_neg q1, if_neg (by decide)]⟩
    clear hp HP q hCr hy0 hy1 hy2 hy3 hy4 g1 h1 g2 h2 g3 h3 g4 h4 hdr hds hrd hrs
    go_wp2
    clear hx d1
    go_loopg [33] rows.length (fun gj v33 wx => ∃ (j : Nat), j + gj = rows.length ∧ v33 = .int .i64 j ∧ Aside0 (Below w.heap.size w wx) ∧ Aside0 ((if rowsFitP t (rows.drop j) = true then (if dataFitP (s.drop (n + 1)) (d.drop (n + 1)) = true then holdsP s d 0 d else some false) else some false) = some r))
    case atStart => exact ⟨0, by omega, rfl, HW, by simpa using HP1⟩
    case round =>
     clear HW HP1
     obtain ⟨j, hj, rfl, HW, HP⟩ := hrel
     rename_i gk1
     cases gk with
     | zero =>
      have e : rows.drop j = [] := List.drop_eq_nil_of_le (by omega)
      have hp := HP.out
      rw [e, rowsFitP, if_pos rfl] at hp
      have HP2 := Aside0.mk hp
      have hjj : ¬ (j : Int) < (rows.length : Int) := by omega
      clear hp HP
      go_wp2
      go_roundg gk
      case measure => omega
      case rel => exact ⟨n + 1, by omega, by first | rfl | (simp; done) | (have := HD.out.2.1; simp; unfold wrap64; omega), HW, HP2⟩
     | succ gk =>
      have hjlt : j < rows.length := by omega
      have hjj : (j : Int) < (rows.length : Int) := by omega
      have hj0 : (0 : Int) ≤ (j : Int) := by omega
      have hdrj : rows.drop j = rows[j] :: rows.drop (j + 1) := List.drop_eq_getElem_cons hjlt
      have hrdj : rd_L12 rows (j : Int) = rows[j] := by unfold rd_L12; simp [List.getD, hjlt]
      obtain ⟨adr, Aw, cw, hAw, hxw, hcw, hCw⟩ := at_L12 HCR.out (j : Int) hj0 hjj
      cases hAw
      rw [hrdj] at hxw hcw hCw
      rw [Int.toNat_natCast] at hxw
      replace hxw := (HW.out.cell (World.block_lt_of_cell? w _ hxw)).trans hxw
      have hp := HP.out
      rw [hdrj, rowsFitP] at hp
      generalize rows[j] = row at *
      obtain ⟨y0, y1, y2, y3, y4⟩ := HY.out wr HW.out
      have HN := Aside0.mk (HF.out Aw cw row wr HW.out (Kd.C_below hCw HW.out) hcw)
      by_cases q : fitsRowP t.f1 row = 0
      ·rw [if_pos q] at hp
       have HP2 := Aside0.mk hp
       have d1 : (fitsRowP t.f1 row == 0) = true := beq_iff_eq.mpr q
       have d2 : (fitsRowP t.f1 row != 0) = false := by rw [bne, d1]; rfl
       clear hp q HP hCw hrdj hdrj HF HY
       go_wp2_with (go_at_call 69; refine HN.out.mono ?_; rintro e w1 ⟨rfl, hb1⟩)
       go_roundg gk
       case measure => omega
       case rel => exact ⟨j + 1, by omega, by first | rfl | (simp; done) | (have := HCR.out.2.1; simp; unfold wrap64; omega), ⟨below_step HW.out hb1⟩, HP2⟩
      ·rw [if_neg q, if_neg (by decide)] at hp
       obtain rfl := Option.some.inj hp
       have d1 : (fitsRowP t.f1 row == 0) = false := beq_eq_false_iff_ne.mpr q
       have d2 : (fitsRowP t.f1 row != 0) = true := by rw [bne, d1]; rfl
       clear hp q HP hCw hrdj hdrj HF HY
       go_wp2_with (go_at_call 69; refine HN.out.mono ?_; rintro e w1 ⟨rfl, hb1⟩)
       go_ret
       exact ⟨rfl, below_step HW.out hb1⟩
   | zero =>
    have e : d.drop n = [] := List.drop_eq_nil_of_le (by omega)
    have hp := HP.out
    have hfit : dataFitP (s.drop n) [] = true := by cases s.drop n <;> rfl
    rw [e, hfit, if_pos rfl] at hp
    have HP2 := Aside0.mk hp
    have hii : ¬ (n : Int) < (d.length : Int) := by omega
    clear hp HP e hfit
    go_wp2
    clear hii hn
    go_loopg [48] d.length (fun gk v48 wx => ∃ (n : Nat), n + gk = d.length ∧ v48 = .int .i64 n ∧ Aside0 (Below w.heap.size w wx) ∧ Aside0 (holdsP s d n (d.drop n) = some r))
    case atStart => exact ⟨0, by omega, rfl, HW, by simpa using HP2⟩
    case round =>
     clear HW HP2
     obtain ⟨n, hn, rfl, HW, HP⟩ := hrel
     rename_i gk1
     cases gk with
     | zero =>
      have e : d.drop n = [] := List.drop_eq_nil_of_le (by omega)
      have hp := HP.out
      rw [e, holdsP] at hp
      obtain rfl := Option.some.inj hp
      have hii : ¬ (n : Int) < (d.length : Int) := by omega
      clear hp HP e
      go_wp2
      go_ret
      exact ⟨rfl, HW.out⟩
     | succ gk =>
      have hlt : n < d.length := by omega
      have hlts : n < s.length := by have := HQ.out; omega
      have hii : (n : Int) < (d.length : Int) := by omega
      have his : (n : Int) < (s.length : Int) := by omega
      have hi0 : (0 : Int) ≤ (n : Int) := by omega
      have hdr : d.drop n = d[n] :: d.drop (n + 1) := List.drop_eq_getElem_cons hlt
      have hrd : rd_L13 d (n : Int) = d[n] := by unfold rd_L13; simp [List.getD, hlt]
      have hmem : d[n] ∈ d := List.getElem_mem hlt
      obtain ⟨ad, Ar, cr, hA, hx, hcr, hCr⟩ := at_L13 HD.out (n : Int) hi0 hii
      cases hA
      rw [hrd] at hx hcr hCr
      rw [Int.toNat_natCast] at hx
      replace hx := (HW.out.cell (World.block_lt_of_cell? w _ hx)).trans hx
      have hp := HP.out
      rw [hdr, holdsP] at hp
      have hwr := HWF.out d[n] hmem
      clear hmem
      generalize d[n] = rows at *
      obtain ⟨a, ha, hp⟩ := Option.bind_eq_some_iff.mp hp
      obtain ⟨at_, A1, c1_, A2, c2, A3, c3, A4, c4, hAt, y0, y1, y2, y3, y4, g1, h1, g2, h2, g3, h3, g4, h4⟩ := at_T49 HS.out (n : Int) hi0 his
      cases hAt
      rw [Int.toNat_natCast] at y0 y1 y2 y3 y4
      replace y0 := (HW.out.cell (World.block_lt_of_cell? w _ y0)).trans y0
      replace y1 := (HW.out.cell (World.block_lt_of_cell? w _ y1)).trans y1
      replace y2 := (HW.out.cell (World.block_lt_of_cell? w _ y2)).trans y2
      replace y3 := (HW.out.cell (World.block_lt_of_cell? w _ y3)).trans y3
      replace y4 := (HW.out.cell (World.block_lt_of_cell? w _ y4)).trans y4
      have HN := Aside0.mk (keysHold_walk (rd_T49 s n).f0 A1 c1_ (rd_T49 s n).f1.length A2 c2 (rd_T49 s n).f2 A3 c3 (rd_T49 s n).f3.length A4 c4 (rd_T49 s n).f4.length Ar cr rows a wr (Kd.C_below h2 HW.out) g2 (Kd.C_below hCr HW.out) hcr hwr ha)
      have HP1 := Aside0.mk hp
      clear hp HP hCr g1 h1 g2 h2 g3 h3 g4 h4 hdr hrd hwr ha
      cases a with
      | false =>
       have hp := HP1.out
       rw [if_neg (by decide)] at hp
       obtain rfl := Option.some.inj hp
       clear hp HP1
       generalize rd_T49 s n = t at *
       go_wp2_with (go_at_call 72; refine HN.out.mono ?_; rintro e w1 ⟨rfl, hb1⟩)
       go_ret
       exact ⟨rfl, below_step HW.out hb1⟩
      | true =>
       have hp := HP1.out
       rw [if_pos rfl] at hp
       obtain ⟨b, hb, hp⟩ := Option.bind_eq_some_iff.mp hp
       have HR2 : Aside0 (∀ W, Below w.heap.size w W → Calls Tryz.prog 73 #[.slice (some at_) s.length c0, .slice (some ad) d.length c1, .int .i64 n] W fun e w' => e = .returned (.bool b) ∧ Below W.heap.size W w') := ⟨fun W hW => refsHold_walk (some at_) c0 s (some ad) c1 d n b W (Kd.C_below HS.out hW) hc0 (Kd.C_below HD.out hW) hc1 HWF.out hi0 his hii hb⟩
       have HP2 := Aside0.mk hp
       clear hp HP1 hb
       generalize rd_T49 s n = t at *
       cases b with
       | false =>
        have hp := HP2.out
        rw [if_neg (by decide)] at hp
        obtain rfl := Option.some.inj hp
        clear hp HP2
        go_wp2_with (first | (go_at_call 72; refine HN.out.mono ?_; rintro e w1 ⟨rfl, hb1⟩) | (go_at_call 73; refine (HR2.out _ (below_step HW.out hb1)).mono ?_; rintro e w2 ⟨rfl, hb2⟩))
        go_ret
        exact ⟨rfl, below_step (below_step HW.out hb1) hb2⟩
       | true =>
        have hp := HP2.out
        rw [if_pos rfl] at hp
        have HP3 := Aside0.mk hp
        clear hp HP2
        go_wp2_with (first | (go_at_call 72; refine HN.out.mono ?_; rintro e w1 ⟨rfl, hb1⟩) | (go_at_call 73; refine (HR2.out _ (below_step HW.out hb1)).mono ?_; rintro e w2 ⟨rfl, hb2⟩))
        go_roundg gk
        case measure => omega
        case rel => exact ⟨n + 1, by omega, by first | rfl | (simp; done) | (have := HD.out.2.1; simp; unfold wrap64; omega), ⟨below_step (below_step HW.out hb1) hb2⟩, HP3⟩
end Go.Proofs.YthgfdnffnbclpaaGreatDoor.PAll
