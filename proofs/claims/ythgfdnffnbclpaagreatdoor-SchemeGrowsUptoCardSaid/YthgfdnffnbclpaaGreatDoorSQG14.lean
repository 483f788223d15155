import Derived.Test.YthgfdnffnbclpaaGreatDoorSQG13
import Derived.Test.YthgfdnffnbclpaaGreatDoorSQG12
import Derived.Test.YthgfdnffnbclpaaGreatDoorSQG07
set_option linter.unusedVariables false
set_option linter.unusedSimpArgs false
namespace Go.Proofs.YthgfdnffnbclpaaGreatDoor.PAll
open Go.RowKit Go.Proofs.YthgfdnffnbclpaaGreatDoorW.PrintWords Go.Proofs.YthgfdnffnbclpaaGreatDoorW.PrintLast Go.Proofs.YthgfdnffnbclpaaGreatDoorW.PrintMore
def refRefsP (s : List S49) (d : List (List (List S64))) (n : Nat) : List S75 → Option Bool
 | [] => some true
 | r :: l => if 0 ≤ r.f1 ∧ r.f1 < (s.length : Int) ∧ r.f1 < (d.length : Int) ∧ 0 ≤ r.f2 ∧ r.f2 < ((rd_T49 s r.f1).f2.length : Int) then
   (rhP r.f0 (rd_L13 d r.f1) (rd_L6 (rd_T49 s r.f1).f2 r.f2) (rd_L13 d n)).bind fun b => if b = true then refRefsP s d n l else some false
  else none
set_option maxHeartbeats 4000000 in
set_option maxRecDepth 100000 in
theorem refRefs_walk (A0 : Option Addr) (c0 : Nat) (s : List S49) (A1 : Option Addr) (c1 : Nat) (d : List (List (List S64))) (n : Nat) (r : Bool) (w : World)
  (hS : Kd.C k49 w A0 s.length s) (hc0 : s.length ≤ c0) (hD : Kd.C (Kd.slice 89 (Kd.slice 87 k64)) w A1 d.length d) (hc1 : d.length ≤ c1) (hn : n < s.length) (hnd : n < d.length) (h : refRefsP s d n (rd_T49 s n).f3 = some r) :
  Calls Tryz.prog 81 #[.slice A0 s.length c0, .slice A1 d.length c1, .int .i64 n] w fun e w' => e = .returned (.bool r) ∧ Below w.heap.size w w' := by
 have hn0 : (0 : Int) ≤ (n : Int) := by omega
 have hn1 : (n : Int) < (s.length : Int) := by omega
 have hn2 : (n : Int) < (d.length : Int) := by omega
 have HS := Aside0.mk hS
 have HD := Aside0.mk hD
 obtain ⟨an, N1, n1, N2, n2, N3, n3, N4, n4, hAn, hz0, hz1, hz2, hz3, hz4, m1, l1_, m2, l2_, m3, l3_, m4, l4_⟩ := at_T49 hS (n : Int) hn0 hn1
 cases hAn
 obtain ⟨ad, Ar, cr, had, hx, hcr, hCr⟩ := at_L13 hD (n : Int) hn0 hn2
 cases had
 rw [Int.toNat_natCast] at hz3 hx
 have HH : Aside0 (refRefsP s d n ((rd_T49 s n).f3.drop 0) = some r) := ⟨by simpa using h⟩
 generalize rd_T49 s (n : Int) = t at *
 have L3 := Aside0.mk l3_
 have hlen := l3_.2.1
 have HRN : Aside0 (rd_L13 d (n : Int) = rd_L13 d (n : Int)) := ⟨rfl⟩
 obtain ⟨rows, hrows⟩ : ∃ rows, rows = rd_L13 d (n : Int) := ⟨_, rfl⟩
 rw [← hrows] at hx hcr hCr
 have HRW := Aside0.mk hrows
 have LR := Aside0.mk hCr
 have KX : Aside0 (∀ W, Below w.heap.size w W → W.cell? ⟨(an.add (n * 5)).block, (an.add (n * 5)).off + 3, none⟩ = some (.slice N3 t.f3.length n3) ∧ W.cell? (ad.add n) = some (.slice Ar rows.length cr)) := ⟨fun W hW =>
  ⟨(hW.cell (World.block_lt_of_cell? w _ hz3)).trans hz3, (hW.cell (World.block_lt_of_cell? w _ hx)).trans hx⟩⟩
 clear hS hD h hz0 hz1 hz2 hz3 hz4 l1_ l2_ l3_ l4_ hx hCr hrows HRN
 go_enter Tryz.func81, Tryz.ntmps81
 go_wp2
 go_loopg [7] t.f3.length (fun gk v7 wx => ∃ (i : Nat), i + gk = t.f3.length ∧ v7 = .int .i64 i ∧ Aside0 (Below w.heap.size w wx) ∧ Aside0 (refRefsP s d n (t.f3.drop i) = some r))
 case atStart => exact ⟨0, by omega, rfl, ⟨Below.refl _ _⟩, HH⟩
 case round =>
  clear HH
  obtain ⟨i, hi, rfl, HW, HP⟩ := hrel
  obtain ⟨x0, x1⟩ := KX.out wr HW.out
  cases gk with
  | zero =>
   have hp := HP.out
   rw [List.drop_eq_nil_of_le (by omega), refRefsP] at hp
   obtain rfl := Option.some.inj hp
   have hii : ¬ (i : Int) < (t.f3.length : Int) := by omega
   clear hp HP
   go_wp2
   go_ret
   exact ⟨rfl, HW.out⟩
  | succ gi =>
   have hii : (i : Int) < (t.f3.length : Int) := by omega
   have hi0 : (0 : Int) ≤ (i : Int) := by omega
   obtain ⟨ar, Ac, cc, hAr, u0, u1, u2, hcc, hCc⟩ := at_T75 L3.out (i : Int) hi0 hii
   cases hAr
   rw [Int.toNat_natCast] at u0 u1 u2
   have hp := HP.out
   rw [List.drop_eq_getElem_cons (by omega), refRefsP, ← rdT75 (by omega)] at hp
   clear HP
   generalize rd_T75 t.f3 (i : Int) = rf at *
   by_cases q : 0 ≤ rf.f1 ∧ rf.f1 < (s.length : Int) ∧ rf.f1 < (d.length : Int) ∧ 0 ≤ rf.f2 ∧ rf.f2 < ((rd_T49 s rf.f1).f2.length : Int)
   case neg => rw [if_neg q] at hp; cases hp
   rw [if_pos q] at hp
   obtain ⟨q1, q2, q3, q4, q5⟩ := q
   obtain ⟨at_, _, _, T2, t2, _, _, _, _, hAt, _, _, y2, _, _, _, _, g2, h2, _⟩ := at_T49 HS.out rf.f1 q1 q2
   cases hAt
   obtain ⟨ad2, Ao, co, had2, hxo, hco, hCo⟩ := at_L13 HD.out rf.f1 q1 q3
   cases had2
   rw [← HRW.out] at hp
   generalize rd_T49 s rf.f1 = tt at *
   obtain ⟨ak, Ak, ck, hAk, hk, hck, hCk⟩ := at_L6 h2 rf.f2 q4 q5
   cases hAk
   generalize rd_L6 tt.f2 rf.f2 = key at *
   generalize rd_L13 d rf.f1 = others at *
   obtain ⟨b, hb, hp⟩ := Option.bind_eq_some_iff.mp hp
   replace u0 := (HW.out.cell (World.block_lt_of_cell? w _ u0)).trans u0
   replace u1 := (HW.out.cell (World.block_lt_of_cell? w _ u1)).trans u1
   replace u2 := (HW.out.cell (World.block_lt_of_cell? w _ u2)).trans u2
   have HN : Aside0 (∀ W, Below w.heap.size w W → Calls Tryz.prog 137 #[.slice Ar rows.length cr, .slice Ac rf.f0.length cc, .slice Ao others.length co, .slice Ak key.length ck] W fun e w' => e = .returned (.bool b) ∧ Below W.heap.size W w') := ⟨fun W hW => refHolds_walk Ar cr rows Ac cc rf.f0 Ao co others Ak ck key b W (Kd.C_below LR.out hW) hcr (Kd.C_below hCc hW) hcc (Kd.C_below hCo hW) hco (Kd.C_below hCk hW) hck hb⟩
   have KY : ∀ W, Below w.heap.size w W → W.cell? (ad.add n) = some (.slice Ar rows.length cr) ∧ W.cell? (ad.add rf.f1.toNat) = some (.slice Ao others.length co) ∧ W.cell? ⟨(an.add (rf.f1.toNat * 5)).block, (an.add (rf.f1.toNat * 5)).off + 2, none⟩ = some (.slice (some ak) tt.f2.length t2) ∧ W.cell? (ak.add rf.f2.toNat) = some (.slice Ak key.length ck) := fun W hW =>
    ⟨(KX.out W hW).2, (hW.cell (World.block_lt_of_cell? w _ hxo)).trans hxo, (hW.cell (World.block_lt_of_cell? w _ y2)).trans y2, (hW.cell (World.block_lt_of_cell? w _ hk)).trans hk⟩
   have HY := Aside0.mk KY
   have HP := Aside0.mk hp
   clear hp hb hCc hCo hCk hk hxo y2 h2 KY
   go_wp2
   obtain ⟨B, hB⟩ : ∃ B, B = wr.heap.size := ⟨_, rfl⟩
   obtain ⟨W1, hW1⟩ : ∃ W, W = wr.alloc (Obj.cells #[Value.slice Ac rf.f0.length cc, Value.int IntKind.i64 rf.f1, Value.int IntKind.i64 rf.f2] 75) := ⟨_, rfl⟩
   have hb5 : W1.heap[B]? = some (.cells #[Value.slice Ac rf.f0.length cc, Value.int IntKind.i64 rf.f1, Value.int IntKind.i64 rf.f2] 75 (0, 0)) := by rw [hW1, hB]; exact Go.Deep.blk_alloc_new wr _
   have hBW : Below w.heap.size w W1 := by rw [hW1]; exact below_step HW.out ((Below.refl _ _).alloc (Nat.le_refl _) _)
   rw [← hW1, ← hB]
   clear hW1 hB u0 u1 u2 x0 x1
   have KS : ∀ W, Below W1.heap.size W1 W → W.cell? (ad.add n) = some (.slice Ar rows.length cr) ∧ W.cell? (ad.add rf.f1.toNat) = some (.slice Ao others.length co) ∧ W.cell? ⟨(an.add (rf.f1.toNat * 5)).block, (an.add (rf.f1.toNat * 5)).off + 2, none⟩ = some (.slice (some ak) tt.f2.length t2) ∧ W.cell? (ak.add rf.f2.toNat) = some (.slice Ak key.length ck) ∧ W.cell? ⟨B, 0, none⟩ = some (.slice Ac rf.f0.length cc) ∧ W.cell? ⟨B, 1, none⟩ = some (.int .i64 rf.f1) ∧ W.cell? ⟨B, 2, none⟩ = some (.int .i64 rf.f2) := fun W hW => by
    have h5 := (hW.block _ (blk_lt hb5)).trans hb5
    obtain ⟨z0, z1, z2, z3⟩ := HY.out W (below_step hBW hW)
    exact ⟨z0, z1, z2, z3, (blk_cell h5 0).trans rfl, (blk_cell h5 1).trans rfl, (blk_cell h5 2).trans rfl⟩
   have HBW := Aside0.mk hBW
   clear hBW hb5
   go_region_held3 (fun W => W.cell? (ad.add n) = some (.slice Ar rows.length cr) ∧ W.cell? (ad.add rf.f1.toNat) = some (.slice Ao others.length co) ∧ W.cell? ⟨(an.add (rf.f1.toNat * 5)).block, (an.add (rf.f1.toNat * 5)).off + 2, none⟩ = some (.slice (some ak) tt.f2.length t2) ∧ W.cell? (ak.add rf.f2.toNat) = some (.slice Ak key.length ck) ∧ W.cell? ⟨B, 0, none⟩ = some (.slice Ac rf.f0.length cc) ∧ W.cell? ⟨B, 1, none⟩ = some (.int .i64 rf.f1) ∧ W.cell? ⟨B, 2, none⟩ = some (.int .i64 rf.f2)) (first | exact KS _ (below_drew1 (Below.refl _ _)) | exact KS _ (below_step (below_drew1 (Below.refl _ _)) hb1)) ((go_at_call 137; refine (HN.out _ (below_drew1 HBW.out)).mono ?_; rintro e w1 ⟨rfl, hb1⟩))
   have HW2 := Aside0.mk (below_step (below_drew1 HBW.out) hb1)
   clear hb1 KS
   cases b with
   | false =>
    have hp := HP.out
    rw [if_neg (by decide)] at hp
    obtain rfl := Option.some.inj hp
    clear hp
    go_wp2
    go_ret
    exact ⟨rfl, HW2.out⟩
   | true =>
    have hp := HP.out
    rw [if_pos rfl] at hp
    have HP2 := Aside0.mk hp
    clear hp
    go_wp2
    go_roundg gi
    case measure => omega
    case rel => exact ⟨i + 1, by omega, ret_n (by omega), HW2, HP2⟩
theorem val_r (x : S64) (h : wfV x) : jointerref01_Valid.f x.f0 x.f1 x.f2 = some (valP x) := by
 obtain ⟨_, h1, _⟩ := h
 have hr : -9223372036854775808 ≤ x.f1 ∧ x.f1 ≤ 9223372036854775807 := by
  unfold Lit.wf at h1
  simp only [Bool.and_eq_true, decide_eq_true_eq] at h1
  exact ⟨h1.1, h1.2⟩
 unfold jointerref01_Valid.f valP
 by_cases q0 : x.f0 = 0
 ·rw [if_pos q0, if_pos q0]
  by_cases e : x.f1 = 0
  ·rw [if_pos e, beq_iff_eq.mpr e, Bool.true_and]
  ·rw [if_neg e, beq_eq_false_iff_ne.mpr e, Bool.false_and]
 rw [if_neg q0, if_neg q0]
 by_cases q1 : x.f0 = 1
 ·rw [if_pos q1, if_pos q1]
 rw [if_neg q1, if_neg q1]
 by_cases q2 : x.f0 = 2
 ·rw [if_pos q2, if_pos q2]
  by_cases e : x.f1 = 0
  ·rw [if_pos e, beq_iff_eq.mpr e, Bool.true_and]
  ·rw [if_neg e, beq_eq_false_iff_ne.mpr e, Bool.false_and]
 rw [if_neg q2, if_neg q2]
 by_cases q3 : x.f0 = 3
 ·rw [if_pos q3, if_pos q3]
  have hw : IntKind.u64.wrap x.f1 = x.f1 % 18446744073709551616 := by
   unfold IntKind.wrap
   simp [IntKind.signed, IntKind.bits]
  rw [hw]
  by_cases e0 : x.f1 = 0
  ·rw [if_pos e0, e0, show decide ((0 : Int) % 18446744073709551616 ≤ 1) = true by decide, Bool.and_true]
  ·rw [if_neg e0]
   by_cases e1 : x.f1 = 1
   ·rw [if_pos e1, e1, show decide ((1 : Int) % 18446744073709551616 ≤ 1) = true by decide, Bool.and_true]
   ·rw [if_neg e1, decide_eq_false (by omega), Bool.and_false]
 ·rw [if_neg q3, if_neg q3]
theorem fits_r (c : S78) (x : S64) (h : wfV x) (k : Nat) : jointerref07_Fits.f (k + 1) c.f0 c.f1 c.f2 c.f3 c.f4 x.f0 x.f1 x.f2 = some (fitsP c x) := by
 unfold jointerref07_Fits.f fitsP
 rw [val_r x h, Option.bind_some]
 cases valP x with
 | false => rw [if_neg (by decide), if_neg (by decide), jointerref07_Fits.j0, if_pos rfl]
 | true =>
  rw [if_pos rfl, if_pos rfl]
  by_cases q0 : x.f0 = 0
  ·rw [if_pos q0, if_pos (beq_iff_eq.mpr q0), jointerref07_Fits.j0, if_neg (by decide), if_pos q0]
   split <;> rfl
  rw [if_neg q0, if_neg (by simpa using q0)]
  by_cases q1 : x.f0 = c.f1
  ·rw [if_pos (beq_iff_eq.mpr q1), jointerref07_Fits.j0, if_neg (by simp [q1]), if_neg q0, jointerref07_InRange.f, ← q1]
   by_cases e1 : x.f0 = 1
   ·rw [if_pos e1, if_pos (beq_iff_eq.mpr e1)]
    by_cases e2 : c.f3 ≤ x.f1
    ·rw [if_pos e2, if_neg (by simp; omega), Option.bind_some]
     by_cases e3 : x.f1 ≤ c.f4
     ·rw [decide_eq_true e3, if_pos rfl, if_neg (by simp; omega)]
     ·rw [decide_eq_false e3, if_neg (by decide), if_pos (by simp; omega)]
    ·rw [if_neg e2, if_pos (by simp; omega), Option.bind_some, if_neg (by decide)]
   have e1b : ¬ (x.f0 == 1) = true := by simpa using e1
   rw [if_neg e1, if_neg e1b]
   by_cases e2 : x.f0 = 2
   ·rw [if_pos e2, if_pos (beq_iff_eq.mpr e2), Option.bind_some]
    by_cases e3 : (x.f2.size : Int) ≤ c.f4
    ·rw [decide_eq_true e3, if_pos rfl, if_neg (by simp; omega)]
    ·rw [decide_eq_false e3, if_neg (by decide), if_pos (by simp; omega)]
   ·have e2b : ¬ (x.f0 == 2) = true := by simpa using e2
    rw [if_neg e2, if_neg e2b, Option.bind_some, if_pos rfl]
  ·rw [if_neg (by simpa using q1), jointerref07_Fits.j0, if_pos (by simpa using q1)]
theorem fitsL_drop (cols : List S78) (row : List S64) (i : Nat) (h : i < row.length) (hl : row.length = cols.length) :
  fitsL (cols.drop i) (row.drop i) = if fitsP (rd_T78 cols i) (rd_T64 row i) = 0 then fitsL (cols.drop (i + 1)) (row.drop (i + 1)) else fitsP (rd_T78 cols i) (rd_T64 row i) := by
 rw [List.drop_eq_getElem_cons h, List.drop_eq_getElem_cons (by omega : i < cols.length), fitsL, rdT78 (by omega)]
 have : rd_T64 row (i : Int) = row[i] := by unfold rd_T64; simp [List.getD, h]
 rw [this]
set_option maxHeartbeats 4000000 in
set_option maxRecDepth 100000 in
theorem refFitsRow_walk (a0 : ByteArray) (A1 : Option Addr) (c1 : Nat) (cols : List S78) (A2 : Option Addr) (n2 c2 : Nat) (A3 : Option Addr) (n3 c3 : Nat) (A4 : Option Addr) (n4 c4 : Nat) (A : Option Addr) (c : Nat) (row : List S64) (w : World)
  (h1 : Kd.C k78 w A1 cols.length cols) (hc1 : cols.length ≤ c1) (hR : Kd.C k64 w A row.length row) (hc : row.length ≤ c) (hwf : ∀ x ∈ row, wfV x) :
  Calls Tryz.prog 79 #[.agg #[.string a0, .slice A1 cols.length c1, .slice A2 n2 c2, .slice A3 n3 c3, .slice A4 n4 c4], .slice A row.length c] w fun e w' => e = .returned (.int .i64 (fitsRowP cols row)) ∧ Below w.heap.size w w' := by
 have H1 := Aside0.mk h1
 have HR := Aside0.mk hR
 have hlen := hR.2.1
 have HWF := Aside0.mk hwf
 have HFT : Aside0 (∀ (c : S78) (x : S64) (W : World), wfV x → Calls Tryz.prog 135 #[.agg #[.string c.f0, .int .u8 c.f1, .bool c.f2, .int .i64 c.f3, .int .i64 c.f4], .agg #[.int .u8 x.f0, .int .i64 x.f1, .string x.f2]] W fun e w' => e = .returned (.int .i64 (fitsP c x)) ∧ Below W.heap.size W w') := ⟨fun c x W hx => jointerref07_Fits.calls 1 _ _ _ _ _ _ _ _ _ W (fits_r c x hx 0)⟩
 clear h1 hR hwf
 obtain ⟨r, hr⟩ : ∃ r, r = fitsRowP cols row := ⟨_, rfl⟩
 rw [← hr]
 unfold fitsRowP at hr
 have HH := Aside0.mk hr
 clear hr
 go_enter Tryz.func79, Tryz.ntmps79
 go_upto_region 1 with (fail)
 obtain ⟨B, hB⟩ : ∃ B, B = w.heap.size := ⟨_, rfl⟩
 obtain ⟨W1, hW1⟩ : ∃ W, W = w.alloc (Obj.cells #[.string a0, .slice A1 cols.length c1, .slice A2 n2 c2, .slice A3 n3 c3, .slice A4 n4 c4] 72) := ⟨_, rfl⟩
 have hb5 : W1.heap[B]? = some (.cells #[.string a0, .slice A1 cols.length c1, .slice A2 n2 c2, .slice A3 n3 c3, .slice A4 n4 c4] 72 (0, 0)) := by rw [hW1, hB]; exact Go.Deep.blk_alloc_new w _
 have hBW : Below w.heap.size w W1 := by rw [hW1]; exact (Below.refl _ _).alloc (Nat.le_refl _) _
 rw [← hW1, ← hB]
 clear hW1 hB
 have KB : Aside0 (∀ W, Below W1.heap.size W1 W → W.cell? ⟨B, 1, none⟩ = some (Value.slice A1 cols.length c1)) := ⟨fun W hW => (blk_cell ((hW.block _ (blk_lt hb5)).trans hb5) 1).trans rfl⟩
 have HBW := Aside0.mk hBW
 clear hb5 hBW
 have x1 := KB.out W1 (Below.refl _ _)
 by_cases q : row.length = cols.length
 case neg =>
  have h := HH.out
  rw [if_neg q] at h
  subst h
  have q' : ¬ (row.length : Int) = (cols.length : Int) := by omega
  have e1 : ((row.length : Int) == (cols.length : Int)) = false := beq_eq_false_iff_ne.mpr q'
  have e2 : ((row.length : Int) != (cols.length : Int)) = true := by rw [bne, e1]; rfl
  clear q q' HH
  go_wp2
  go_ret
  exact ⟨rfl, HBW.out⟩
 have h := HH.out
 rw [if_pos q] at h
 have q' : (row.length : Int) = (cols.length : Int) := by omega
 have e1 : ((row.length : Int) == (cols.length : Int)) = true := beq_iff_eq.mpr q'
 have e2 : ((row.length : Int) != (cols.length : Int)) = false := by rw [bne, e1]; rfl
 have HP : Aside0 (r = fitsL (cols.drop 0) (row.drop 0)) := ⟨by simpa using h⟩
 have HQ := Aside0.mk q
 clear h q q' HH
 go_wp2
 clear e1 e2 x1
 go_loopg [5] row.length (fun gk v5 wx => ∃ (i : Nat), i + gk = row.length ∧ v5 = .int .i64 i ∧ Aside0 (Below W1.heap.size W1 wx) ∧ Aside0 (r = fitsL (cols.drop i) (row.drop i)))
 case atStart => exact ⟨0, by omega, rfl, ⟨Below.refl _ _⟩, HP⟩
 case round =>
  clear HP
  obtain ⟨i, hi, rfl, HW, HP⟩ := hrel
  cases gk with
  | zero =>
   have hp := HP.out
   rw [List.drop_eq_nil_of_le (by omega : row.length ≤ i)] at hp
   have hz : fitsL (cols.drop i) [] = 0 := by cases cols.drop i <;> rfl
   rw [hz] at hp
   subst hp
   have hii : ¬ (i : Int) < (row.length : Int) := by omega
   clear HP hz
   go_wp2
   go_ret
   exact ⟨rfl, below_step HBW.out HW.out⟩
  | succ gi =>
   have hii : (i : Int) < (row.length : Int) := by omega
   have hi0 : (0 : Int) ≤ (i : Int) := by omega
   have hic : (i : Int) < (cols.length : Int) := by have := HQ.out; omega
   obtain ⟨a1, ha1, u0, u1, u2, u3, u4⟩ := at_T78 H1.out (i : Int) hi0 hic
   cases ha1
   obtain ⟨a2, ha2, v0, v1, v2⟩ := at_T64 HR.out (i : Int) hi0 hii
   cases ha2
   rw [Int.toNat_natCast] at u0 u1 u2 u3 u4 v0 v1 v2
   have hp := HP.out
   rw [fitsL_drop cols row i (by omega) HQ.out] at hp
   have hx : wfV (rd_T64 row (i : Int)) := by
    have : rd_T64 row (i : Int) = row[i]'(by omega) := by unfold rd_T64; simp [List.getD, show i < row.length by omega]
    rw [this]; exact HWF.out _ (List.getElem_mem _)
   generalize rd_T78 cols (i : Int) = cc at *
   generalize rd_T64 row (i : Int) = x at *
   have HN : Aside0 (∀ W, Calls Tryz.prog 135 #[.agg #[.string cc.f0, .int .u8 cc.f1, .bool cc.f2, .int .i64 cc.f3, .int .i64 cc.f4], .agg #[.int .u8 x.f0, .int .i64 x.f1, .string x.f2]] W fun e w' => e = .returned (.int .i64 (fitsP cc x)) ∧ Below W.heap.size W w') := ⟨fun W => HFT.out cc x W hx⟩
   have KS : ∀ W, Below W1.heap.size W1 W → W.cell? ⟨B, 1, none⟩ = some (Value.slice (some a1) cols.length c1) ∧ W.cell? (a1.add (i * 5)) = some (.string cc.f0) ∧ W.cell? ⟨(a1.add (i * 5)).block, (a1.add (i * 5)).off + 1, none⟩ = some (.int .u8 cc.f1) ∧ W.cell? ⟨(a1.add (i * 5)).block, (a1.add (i * 5)).off + 2, none⟩ = some (.bool cc.f2) ∧ W.cell? ⟨(a1.add (i * 5)).block, (a1.add (i * 5)).off + 3, none⟩ = some (.int .i64 cc.f3) ∧ W.cell? ⟨(a1.add (i * 5)).block, (a1.add (i * 5)).off + 4, none⟩ = some (.int .i64 cc.f4) ∧ W.cell? (a2.add (i * 3)) = some (.int .u8 x.f0) ∧ W.cell? ⟨(a2.add (i * 3)).block, (a2.add (i * 3)).off + 1, none⟩ = some (.int .i64 x.f1) ∧ W.cell? ⟨(a2.add (i * 3)).block, (a2.add (i * 3)).off + 2, none⟩ = some (.string x.f2) := fun W hW => by
    have hb := below_step HBW.out hW
    exact ⟨KB.out W hW, (hb.cell (World.block_lt_of_cell? w _ u0)).trans u0, (hb.cell (World.block_lt_of_cell? w _ u1)).trans u1, (hb.cell (World.block_lt_of_cell? w _ u2)).trans u2, (hb.cell (World.block_lt_of_cell? w _ u3)).trans u3, (hb.cell (World.block_lt_of_cell? w _ u4)).trans u4, (hb.cell (World.block_lt_of_cell? w _ v0)).trans v0, (hb.cell (World.block_lt_of_cell? w _ v1)).trans v1, (hb.cell (World.block_lt_of_cell? w _ v2)).trans v2⟩
   have HP := Aside0.mk hp
   clear hp u0 u1 u2 u3 u4 v0 v1 v2 hx
   generalize fitsP cc x = fe at *
   go_wp2
   go_region_held3 (fun W => W.cell? ⟨B, 1, none⟩ = some (Value.slice (some a1) cols.length c1) ∧ W.cell? (a1.add (i * 5)) = some (.string cc.f0) ∧ W.cell? ⟨(a1.add (i * 5)).block, (a1.add (i * 5)).off + 1, none⟩ = some (.int .u8 cc.f1) ∧ W.cell? ⟨(a1.add (i * 5)).block, (a1.add (i * 5)).off + 2, none⟩ = some (.bool cc.f2) ∧ W.cell? ⟨(a1.add (i * 5)).block, (a1.add (i * 5)).off + 3, none⟩ = some (.int .i64 cc.f3) ∧ W.cell? ⟨(a1.add (i * 5)).block, (a1.add (i * 5)).off + 4, none⟩ = some (.int .i64 cc.f4) ∧ W.cell? (a2.add (i * 3)) = some (.int .u8 x.f0) ∧ W.cell? ⟨(a2.add (i * 3)).block, (a2.add (i * 3)).off + 1, none⟩ = some (.int .i64 x.f1) ∧ W.cell? ⟨(a2.add (i * 3)).block, (a2.add (i * 3)).off + 2, none⟩ = some (.string x.f2)) (first | exact KS _ (below_drew1 HW.out) | exact KS _ (below_step (below_drew1 HW.out) hb1)) ((go_at_call 135; refine (HN.out _).mono ?_; rintro e w1 ⟨rfl, hb1⟩))
   have HW2 := Aside0.mk (below_step (below_drew1 HW.out) hb1)
   clear hb1 KS
   by_cases q : fe = 0
   ·have hp := HP.out
    rw [if_pos q] at hp
    have HP2 := Aside0.mk hp
    have e1 : (fe == 0) = true := beq_iff_eq.mpr q
    have e2 : (fe != 0) = false := by rw [bne, e1]; rfl
    clear hp q HP
    go_wp2
    go_roundg gi
    case measure => omega
    case rel => exact ⟨i + 1, by omega, ret_n (by omega), HW2, HP2⟩
   ·have hp := HP.out
    rw [if_neg q] at hp
    have e1 : (fe == 0) = false := beq_eq_false_iff_ne.mpr q
    have e2 : (fe != 0) = true := by rw [bne, e1]; rfl
    subst hp
    clear q HP
    go_wp2
    go_ret
    exact ⟨rfl, below_step HBW.out HW2.out⟩
theorem rdL13 {l : List (List (List S64))} {i : Nat} (h : i < l.length) : rd_L13 l (i : Int) = l[i] := by unfold rd_L13; simp [List.getD, h]
def refHoldsP (s : List S49) (d : List (List (List S64))) : Nat → Nat → Option Bool
 | 0, _ => some true
 | g + 1, i => (refKeysP (rd_L13 d i) (rd_T49 s i).f2).bind fun a => if a = true then (refRefsP s d i (rd_T49 s i).f3).bind fun b => if b = true then refHoldsP s d g (i + 1) else some false else some false
def refDataP (s : List S49) (d : List (List (List S64))) : Option Bool :=
 (refValidP s).bind fun v => if v = true then (if d.length = s.length then (if dataFitP s d = true then refHoldsP s d s.length 0 else some false) else some false) else some false
set_option maxHeartbeats 4000000 in
set_option maxRecDepth 100000 in
theorem refData_walk (A0 : Option Addr) (c0 : Nat) (s : List S49) (A1 : Option Addr) (c1 : Nat) (d : List (List (List S64))) (r : Bool) (w : World)
  (hS : Kd.C k49 w A0 s.length s) (hc0 : s.length ≤ c0) (hD : Kd.C (Kd.slice 89 (Kd.slice 87 k64)) w A1 d.length d) (hc1 : d.length ≤ c1) (hwf : ∀ rows ∈ d, ∀ row ∈ rows, ∀ x ∈ row, wfV x) (h : refDataP s d = some r) :
  Calls Tryz.prog 30 #[.slice A0 s.length c0, .slice A1 d.length c1] w fun e w' => e = .returned (.bool r) ∧ Below w.heap.size w w' := by
 have HS := Aside0.mk hS
 have HD := Aside0.mk hD
 have HWF := Aside0.mk hwf
 have hlen := hS.2.1
 unfold refDataP at h
 obtain ⟨v, hv, h⟩ := Option.bind_eq_some_iff.mp h
 have HV := Aside0.mk (refValid_walk A0 c0 s v w hS hc0 hv)
 have HFR : Aside0 (∀ (t : S49) (A1 : Option Addr) (c1 : Nat) (A2 : Option Addr) (c2 : Nat) (A3 : Option Addr) (c3 : Nat) (A4 : Option Addr) (c4 : Nat) (A : Option Addr) (c : Nat) (row : List S64) (W : World), Kd.C k78 W A1 t.f1.length t.f1 → t.f1.length ≤ c1 → Kd.C k64 W A row.length row → row.length ≤ c → (∀ x ∈ row, wfV x) →
   Calls Tryz.prog 79 #[.agg #[.string t.f0, .slice A1 t.f1.length c1, .slice A2 t.f2.length c2, .slice A3 t.f3.length c3, .slice A4 t.f4.length c4], .slice A row.length c] W fun e w' => e = .returned (.int .i64 (fitsRowP t.f1 row)) ∧ Below W.heap.size W w') := ⟨fun t A1 c1 A2 c2 A3 c3 A4 c4 A c row W h1 g1 hR hc hw => refFitsRow_walk t.f0 A1 c1 t.f1 A2 _ c2 A3 _ c3 A4 _ c4 A c row W h1 g1 hR hc hw⟩
 have HKH : Aside0 (∀ (n : Nat) (b : Bool) (W : World), Below w.heap.size w W → n < s.length → n < d.length → refKeysP (rd_L13 d n) (rd_T49 s n).f2 = some b → Calls Tryz.prog 80 #[.slice A0 s.length c0, .slice A1 d.length c1, .int .i64 n] W fun e w' => e = .returned (.bool b) ∧ Below W.heap.size W w') := ⟨fun n b W hW hn hnd hb => refKeys_walk A0 c0 s A1 c1 d n b W (Kd.C_below hS hW) hc0 (Kd.C_below hD hW) hc1 hn hnd hb⟩
 have HRH : Aside0 (∀ (n : Nat) (b : Bool) (W : World), Below w.heap.size w W → n < s.length → n < d.length → refRefsP s d n (rd_T49 s n).f3 = some b → Calls Tryz.prog 81 #[.slice A0 s.length c0, .slice A1 d.length c1, .int .i64 n] W fun e w' => e = .returned (.bool b) ∧ Below W.heap.size W w') := ⟨fun n b W hW hn hnd hb => refRefs_walk A0 c0 s A1 c1 d n b W (Kd.C_below hS hW) hc0 (Kd.C_below hD hW) hc1 hn hnd hb⟩
 clear hS hD hv hwf
 have HH := Aside0.mk h
 clear h
 go_enter Tryz.func30, Tryz.ntmps30
 cases v with
 | false =>
  have h := HH.out
  rw [if_neg (by decide)] at h
  obtain rfl := Option.some.inj h
  clear h HH
  go_wp2_with (go_at_call 78; refine HV.out.mono ?_; rintro e w1 ⟨rfl, hb1⟩)
  go_ret
  exact ⟨rfl, hb1⟩
 | true =>
 have h := HH.out
 rw [if_pos rfl] at h
 clear HH
 by_cases q : d.length = s.length
 case neg =>
  rw [if_neg q] at h
  obtain rfl := Option.some.inj h
  have q' : ¬ (d.length : Int) = (s.length : Int) := by omega
  have e1 : ((d.length : Int) == (s.length : Int)) = false := beq_eq_false_iff_ne.mpr q'
  have e2 : ((d.length : Int) != (s.length : Int)) = true := by rw [bne, e1]; rfl
  clear h q q'
  go_wp2_with (go_at_call 78; refine HV.out.mono ?_; rintro e w1 ⟨rfl, hb1⟩)
  go_ret
  exact ⟨rfl, hb1⟩
 rw [if_pos q] at h
 have q' : (d.length : Int) = (s.length : Int) := by omega
 have e1 : ((d.length : Int) == (s.length : Int)) = true := beq_iff_eq.mpr q'
 have e2 : ((d.length : Int) != (s.length : Int)) = false := by rw [bne, e1]; rfl
 have HQ := Aside0.mk q
 have HP : Aside0 ((if dataFitP (s.drop 0) (d.drop 0) = true then refHoldsP s d s.length 0 else some false) = some r) := ⟨by simpa using h⟩
 clear h q q'
 go_wp2_with (go_at_call 78; refine HV.out.mono ?_; rintro e w1 ⟨rfl, hb1⟩)
 have HB := Aside0.mk hb1
 clear hb1 HV e1 e2
 go_loopg [5] s.length (fun gk v5 wx => ∃ (i : Nat), i + gk = s.length ∧ v5 = .int .i64 i ∧ Aside0 (Below w.heap.size w wx) ∧ Aside0 ((if dataFitP (s.drop i) (d.drop i) = true then refHoldsP s d s.length 0 else some false) = some r))
 case atStart => exact ⟨0, by omega, rfl, HB, HP⟩
 case round =>
  clear HP HB
  obtain ⟨n, hn, rfl, HW, HP⟩ := hrel
  cases gk with
  | succ gi =>
   have hii : (n : Int) < (s.length : Int) := by omega
   have hid : (n : Int) < (d.length : Int) := by have := HQ.out; omega
   have hi0 : (0 : Int) ≤ (n : Int) := by omega
   obtain ⟨an, A1_, c1_, A2, c2, A3, c3, A4, c4, hAn, hy0, hy1, hy2, hy3, hy4, g1, h1, g2, h2, g3, h3, g4, h4⟩ := at_T49 HS.out (n : Int) hi0 hii
   cases hAn
   obtain ⟨ad, Ar, cr, hA, hx, hcr, hCr⟩ := at_L13 HD.out (n : Int) hi0 hid
   cases hA
   rw [Int.toNat_natCast] at hx hy0 hy1 hy2 hy3 hy4
   have hp := HP.out
   rw [List.drop_eq_getElem_cons (by omega : n < s.length), List.drop_eq_getElem_cons (by omega : n < d.length), dataFitP, ← rdL13 (by omega), ← rdT49 (by omega)] at hp
   have hwr : ∀ row ∈ rd_L13 d (n : Int), ∀ x ∈ row, wfV x := by rw [rdL13 (by omega)]; exact HWF.out _ (List.getElem_mem _)
   generalize rd_T49 s (n : Int) = t at *
   generalize rd_L13 d (n : Int) = rows at *
   have HCR := Aside0.mk hCr
   have hrl := hCr.2.1
   have HWR := Aside0.mk hwr
   have HX : Aside0 (∀ W, Below w.heap.size w W → W.cell? (ad.add n) = some (.slice Ar rows.length cr)) := ⟨fun W hW => (hW.cell (World.block_lt_of_cell? w _ hx)).trans hx⟩
   have x0 := HX.out wr HW.out
   by_cases q : (rows.length : Int) > 1000
   ·rw [if_pos q, if_neg (by decide)] at hp
    obtain rfl := Option.some.inj hp
    have d1 : decide (1000 < (rows.length : Int)) = true := decide_eq_true q
    clear hp HP q hCr hwr
    go_wp2
    go_ret
    exact ⟨rfl, HW.out⟩
   rw [if_neg q] at hp
   have d1 : decide (1000 < (rows.length : Int)) = false := decide_eq_false q
   have HP1 : Aside0 ((if rowsFitP t (rows.drop 0) = true then (if dataFitP (s.drop (n + 1)) (d.drop (n + 1)) = true then refHoldsP s d s.length 0 else some false) else some false) = some r) := ⟨by
    rw [← hp]
    by_cases q1 : rowsFitP t rows = true
    ·rw [List.drop_zero, if_pos q1, if_pos q1]
    ·rw [List.drop_zero, if_neg q1, if_neg q1, if_neg (by decide)]⟩
   have HF : Aside0 (∀ (A : Option Addr) (c : Nat) (row : List S64) (W : World), Below w.heap.size w W → Kd.C k64 W A row.length row → row.length ≤ c → (∀ x ∈ row, wfV x) → Calls Tryz.prog 79 #[.agg #[.string t.f0, .slice A1_ t.f1.length c1_, .slice A2 t.f2.length c2, .slice A3 t.f3.length c3, .slice A4 t.f4.length c4], .slice A row.length c] W fun e w' => e = .returned (.int .i64 (fitsRowP t.f1 row)) ∧ Below W.heap.size W w') := ⟨fun A c row W hW hC hc hw => HFR.out t A1_ c1_ A2 c2 A3 c3 A4 c4 A c row W (Kd.C_below h1 hW) g1 hC hc hw⟩
   have HY : Aside0 (∀ W, Below w.heap.size w W → W.cell? (an.add (n * 5)) = some (.string t.f0) ∧ W.cell? ⟨(an.add (n * 5)).block, (an.add (n * 5)).off + 1, none⟩ = some (.slice A1_ t.f1.length c1_) ∧ W.cell? ⟨(an.add (n * 5)).block, (an.add (n * 5)).off + 2, none⟩ = some (.slice A2 t.f2.length c2) ∧ W.cell? ⟨(an.add (n * 5)).block, (an.add (n * 5)).off + 3, none⟩ = some (.slice A3 t.f3.length c3) ∧ W.cell? ⟨(an.add (n * 5)).block, (an.add (n * 5)).off + 4, none⟩ = some (.slice A4 t.f4.length c4)) := ⟨fun W hB =>
    ⟨(hB.cell (World.block_lt_of_cell? w _ hy0)).trans hy0, (hB.cell (World.block_lt_of_cell? w _ hy1)).trans hy1, (hB.cell (World.block_lt_of_cell? w _ hy2)).trans hy2, (hB.cell (World.block_lt_of_cell? w _ hy3)).trans hy3, (hB.cell (World.block_lt_of_cell? w _ hy4)).trans hy4⟩⟩
   clear hp HP q hCr hwr hy0 hy1 hy2 hy3 hy4 g1 h1 g2 h2 g3 h3 g4 h4 hx
   go_wp2
   clear x0 d1
   go_loopg [6] rows.length (fun gj v6 wx => ∃ (j : Nat), j + gj = rows.length ∧ v6 = .int .i64 j ∧ Aside0 (Below w.heap.size w wx) ∧ Aside0 ((if rowsFitP t (rows.drop j) = true then (if dataFitP (s.drop (n + 1)) (d.drop (n + 1)) = true then refHoldsP s d s.length 0 else some false) else some false) = some r))
   case atStart => exact ⟨0, by omega, rfl, HW, HP1⟩
   case round =>
    clear HW HP1
    obtain ⟨j, hj, rfl, HW, HP⟩ := hrel
    have x0 := HX.out wr HW.out
    cases gk with
    | zero =>
     have hp := HP.out
     rw [List.drop_eq_nil_of_le (by omega), rowsFitP, if_pos rfl] at hp
     have HP2 := Aside0.mk hp
     have hjj : ¬ (j : Int) < (rows.length : Int) := by omega
     clear hp HP
     go_wp2
     go_roundg gi
     case measure => omega
     case rel => exact ⟨n + 1, by omega, ret_n (by omega), HW, HP2⟩
    | succ gj =>
     have hjj : (j : Int) < (rows.length : Int) := by omega
     have hj0 : (0 : Int) ≤ (j : Int) := by omega
     obtain ⟨adr, Aw, cw, hAw, hxw, hcw, hCw⟩ := at_L12 HCR.out (j : Int) hj0 hjj
     cases hAw
     rw [Int.toNat_natCast] at hxw
     have hp := HP.out
     rw [List.drop_eq_getElem_cons (by omega), rowsFitP, ← rdL12 (by omega)] at hp
     have hw : ∀ x ∈ rd_L12 rows (j : Int), wfV x := by rw [rdL12 (by omega)]; exact HWR.out _ (List.getElem_mem _)
     generalize rd_L12 rows (j : Int) = row at *
     have HN : Aside0 (∀ W, Below w.heap.size w W → Calls Tryz.prog 79 #[.agg #[.string t.f0, .slice A1_ t.f1.length c1_, .slice A2 t.f2.length c2, .slice A3 t.f3.length c3, .slice A4 t.f4.length c4], .slice Aw row.length cw] W fun e w' => e = .returned (.int .i64 (fitsRowP t.f1 row)) ∧ Below W.heap.size W w') := ⟨fun W hW => HF.out Aw cw row W hW (Kd.C_below hCw hW) hcw hw⟩
     have KS : ∀ W, Below w.heap.size w W → W.cell? (an.add (n * 5)) = some (.string t.f0) ∧ W.cell? ⟨(an.add (n * 5)).block, (an.add (n * 5)).off + 1, none⟩ = some (.slice A1_ t.f1.length c1_) ∧ W.cell? ⟨(an.add (n * 5)).block, (an.add (n * 5)).off + 2, none⟩ = some (.slice A2 t.f2.length c2) ∧ W.cell? ⟨(an.add (n * 5)).block, (an.add (n * 5)).off + 3, none⟩ = some (.slice A3 t.f3.length c3) ∧ W.cell? ⟨(an.add (n * 5)).block, (an.add (n * 5)).off + 4, none⟩ = some (.slice A4 t.f4.length c4) ∧ W.cell? (ad.add n) = some (.slice (some adr) rows.length cr) ∧ W.cell? (adr.add j) = some (.slice Aw row.length cw) := fun W hW => by
      obtain ⟨z0, z1, z2, z3, z4⟩ := HY.out W hW
      exact ⟨z0, z1, z2, z3, z4, HX.out W hW, (hW.cell (World.block_lt_of_cell? w _ hxw)).trans hxw⟩
     have HP1 := Aside0.mk hp
     clear hp HP hCw hw hxw
     generalize fitsRowP t.f1 row = fe at *
     go_wp2
     clear x0
     go_region_held3 (fun W => W.cell? (an.add (n * 5)) = some (.string t.f0) ∧ W.cell? ⟨(an.add (n * 5)).block, (an.add (n * 5)).off + 1, none⟩ = some (.slice A1_ t.f1.length c1_) ∧ W.cell? ⟨(an.add (n * 5)).block, (an.add (n * 5)).off + 2, none⟩ = some (.slice A2 t.f2.length c2) ∧ W.cell? ⟨(an.add (n * 5)).block, (an.add (n * 5)).off + 3, none⟩ = some (.slice A3 t.f3.length c3) ∧ W.cell? ⟨(an.add (n * 5)).block, (an.add (n * 5)).off + 4, none⟩ = some (.slice A4 t.f4.length c4) ∧ W.cell? (ad.add n) = some (.slice (some adr) rows.length cr) ∧ W.cell? (adr.add j) = some (.slice Aw row.length cw)) (first | exact KS _ (below_drew1 HW.out) | exact KS _ (below_step (below_drew1 HW.out) hb1)) ((go_at_call 79; refine (HN.out _ (below_drew1 HW.out)).mono ?_; rintro e w1 ⟨rfl, hb1⟩))
     have HW2 := Aside0.mk (below_step (below_drew1 HW.out) hb1)
     clear hb1 KS
     by_cases q : fe = 0
     ·have hp := HP1.out
      rw [if_pos q] at hp
      have HP2 := Aside0.mk hp
      have e1 : (fe == 0) = true := beq_iff_eq.mpr q
      have e2 : (fe != 0) = false := by rw [bne, e1]; rfl
      clear hp q HP1
      go_wp2
      go_roundg gj
      case measure => omega
      case rel => exact ⟨j + 1, by omega, ret_n (by omega), HW2, HP2⟩
     ·have hp := HP1.out
      rw [if_neg q, if_neg (by decide)] at hp
      obtain rfl := Option.some.inj hp
      have e1 : (fe == 0) = false := beq_eq_false_iff_ne.mpr q
      have e2 : (fe != 0) = true := by rw [bne, e1]; rfl
      clear hp q HP1
      go_wp2
      go_ret
      exact ⟨rfl, HW2.out⟩
  | zero =>
   have hp := HP.out
   have hfit : ∀ l, dataFitP l [] = true := fun l => by cases l <;> rfl
   rw [List.drop_eq_nil_of_le (by have := HQ.out; omega : d.length ≤ n), hfit, if_pos rfl] at hp
   have HP2 := Aside0.mk hp
   have hii : ¬ (n : Int) < (s.length : Int) := by omega
   clear hp HP hfit
   go_wp2
   clear hii hn
   go_loopg [8] s.length (fun gk v8 wx => ∃ (i : Nat), i + gk = s.length ∧ v8 = .int .i64 i ∧ Aside0 (Below w.heap.size w wx) ∧ Aside0 (refHoldsP s d gk i = some r))
   case atStart => exact ⟨0, by omega, rfl, HW, HP2⟩
   case round =>
    clear HW HP2
    obtain ⟨n, hn, rfl, HW, HP⟩ := hrel
    cases gk with
    | zero =>
     have hp := HP.out
     rw [refHoldsP] at hp
     obtain rfl := Option.some.inj hp
     have hii : ¬ (n : Int) < (s.length : Int) := by omega
     clear hp HP
     go_wp2
     go_ret
     exact ⟨rfl, HW.out⟩
    | succ gi =>
     have hii : (n : Int) < (s.length : Int) := by omega
     have hp := HP.out
     rw [refHoldsP] at hp
     clear HP
     obtain ⟨a, ha, hp⟩ := Option.bind_eq_some_iff.mp hp
     have HN := Aside0.mk (HKH.out n a wr HW.out (by omega) (by have := HQ.out; omega) ha)
     have HP := Aside0.mk hp
     clear hp ha
     cases a with
     | false =>
      have hp := HP.out
      rw [if_neg (by decide)] at hp
      obtain rfl := Option.some.inj hp
      clear hp HP
      go_wp2_with (go_at_call 80; refine HN.out.mono ?_; rintro e w1 ⟨rfl, hb1⟩)
      go_ret
      exact ⟨rfl, below_step HW.out hb1⟩
     | true =>
      have hp := HP.out
      rw [if_pos rfl] at hp
      obtain ⟨b, hb, hp⟩ := Option.bind_eq_some_iff.mp hp
      have HR2 : Aside0 (∀ W, Below w.heap.size w W → Calls Tryz.prog 81 #[.slice A0 s.length c0, .slice A1 d.length c1, .int .i64 n] W fun e w' => e = .returned (.bool b) ∧ Below W.heap.size W w') := ⟨fun W hW => HRH.out n b W hW (by omega) (by have := HQ.out; omega) hb⟩
      have HP2 := Aside0.mk hp
      clear hp HP hb
      cases b with
      | false =>
       have hp := HP2.out
       rw [if_neg (by decide)] at hp
       obtain rfl := Option.some.inj hp
       clear hp HP2
       go_wp2_with (first | (go_at_call 80; refine HN.out.mono ?_; rintro e w1 ⟨rfl, hb1⟩) | (go_at_call 81; refine (HR2.out _ (below_step HW.out hb1)).mono ?_; rintro e w2 ⟨rfl, hb2⟩))
       go_ret
       exact ⟨rfl, below_step (below_step HW.out hb1) hb2⟩
      | true =>
       have hp := HP2.out
       rw [if_pos rfl] at hp
       have HP3 := Aside0.mk hp
       clear hp HP2
       go_wp2_with (first | (go_at_call 80; refine HN.out.mono ?_; rintro e w1 ⟨rfl, hb1⟩) | (go_at_call 81; refine (HR2.out _ (below_step HW.out hb1)).mono ?_; rintro e w2 ⟨rfl, hb2⟩))
       go_roundg gi
       case measure => omega
       case rel => exact ⟨n + 1, by omega, ret_n (by omega), ⟨below_step (below_step HW.out hb1) hb2⟩, HP3⟩
def scheme_Find.f (k : Nat) (s : List S49) (nm : ByteArray) : Option (Int × Bool) :=
 if 0 ≤ findP nm 0 s then (scheme_Valid.f k s).bind fun v => if v = true then some (findP nm 0 s, true) else some (0, false) else some (0, false)
set_option maxHeartbeats 4000000 in
set_option maxRecDepth 100000 in
theorem scheme_Find.calls (k : Nat) (A0 : Option Addr) (c0 : Nat) (s : List S49) (nm : ByteArray) (r1 : Int) (r2 : Bool) (w : World) (hS : Kd.C k49 w A0 s.length s) (hc0 : s.length ≤ c0) (h : scheme_Find.f k s nm = some (r1, r2)) (hL : LaidL w) :
  Calls Tryz.prog 40 #[.slice A0 s.length c0, .string nm] w fun e w' => e = .returned (.tuple #[.int .i64 r1, .bool r2]) ∧ Below w.heap.size w w' := by
 unfold scheme_Find.f at h
 have HF := Aside0.mk (scheme_find.calls A0 c0 s nm (findP nm 0 s) w hS hc0 rfl)
 generalize findP nm 0 s = n at *
 by_cases q : 0 ≤ n
 ·rw [if_pos q] at h
  have d1 : decide (0 ≤ n) = true := decide_eq_true q
  obtain ⟨v, hv, h⟩ := Option.bind_eq_some_iff.mp h
  have HV : Aside0 (∀ W, Below w.heap.size w W → Calls Tryz.prog 28 #[.slice A0 s.length c0] W fun e w' => e = .returned (.bool v) ∧ Below W.heap.size W w') := ⟨fun W hW => scheme_Valid.calls k A0 c0 s v W (Kd.C_below hS hW) hc0 hv (LaidL.below ⟨hL⟩ hW)⟩
  clear hS hL hv q
  cases v with
  | false =>
   rw [if_neg (by decide)] at h
   cases h
   go_enter Tryz.func40, Tryz.ntmps40
   go_wp2_with (first | (go_at_call 33; refine HF.out.mono ?_; rintro e w1 ⟨rfl, hb1⟩) | (go_at_call 28; refine (HV.out _ hb1).mono ?_; rintro e w2 ⟨rfl, hb2⟩))
   go_ret2
   exact ⟨rfl, below_step hb1 hb2⟩
  | true =>
   rw [if_pos rfl] at h
   cases h
   go_enter Tryz.func40, Tryz.ntmps40
   go_wp2_with (first | (go_at_call 33; refine HF.out.mono ?_; rintro e w1 ⟨rfl, hb1⟩) | (go_at_call 28; refine (HV.out _ hb1).mono ?_; rintro e w2 ⟨rfl, hb2⟩))
   go_ret2
   exact ⟨rfl, below_step hb1 hb2⟩
 ·rw [if_neg q] at h
  cases h
  have d1 : decide (0 ≤ n) = false := decide_eq_false q
  clear q hS
  go_enter Tryz.func40, Tryz.ntmps40
  go_wp2_with (go_at_call 33; refine HF.out.mono ?_; rintro e w1 ⟨rfl, hb1⟩)
  go_ret2
  exact ⟨rfl, hb1⟩
def inR (row : List S64) (cols : List Int) : Prop := ∀ c ∈ cols, 0 ≤ c ∧ c < (row.length : Int)
def vals (row : List S64) (cols : List Int) : List S64 := cols.map (rd_T64 row)
def fullB (row : List S64) (cols : List Int) : Bool := cols.all fun c => decide ((rd_T64 row c).f0 ≠ 0)
theorem fullB_vals (row : List S64) (cols : List Int) : fullB row cols = true ↔ ∀ x ∈ vals row cols, x.f0 ≠ 0 := by
 unfold fullB vals
 rw [List.all_eq_true]
 constructor
 ·intro h x hx
  obtain ⟨c, hc, rfl⟩ := List.mem_map.1 hx
  exact of_decide_eq_true (h c hc)
 ·intro h c hc
  exact decide_eq_true (h _ (List.mem_map_of_mem hc))
theorem fullP_is (row : List S64) : ∀ cols : List Int, inR row cols → fullP row cols = some (fullB row cols)
 | [], _ => rfl
 | c :: r, h => by
  rw [fullP, if_pos (h c (by simp)), fullP_is row r (fun x hx => h x (by simp [hx]))]
  unfold fullB
  rw [List.all_cons]
  by_cases q : (rd_T64 row c).f0 = 0
  ·rw [if_pos q, decide_eq_false (fun e => e q)]; rfl
  ·rw [if_neg q, decide_eq_true q]; rfl
theorem alikeP_is (a b : List S64) : ∀ (cols key : List Int), cols.length = key.length → inR a cols → inR b key → alikeP a b cols key = some (decide (vals a cols = vals b key))
 | [], [], _, _, _ => rfl
 | [], _ :: _, h, _, _ => by simp at h
 | _ :: _, [], h, _, _ => by simp at h
 | c :: cs, q :: qs, h, h1, h2 => by
  have g1 := h1 c (by simp)
  have g2 := h2 q (by simp)
  rw [alikeP, if_pos ⟨g1.1, g1.2, g2.1, g2.2⟩, alikeP_is a b cs qs (by simpa using h) (fun x hx => h1 x (by simp [hx])) (fun x hx => h2 x (by simp [hx]))]
  unfold vals
  rw [List.map_cons, List.map_cons]
  by_cases e : rd_T64 a c = rd_T64 b q
  ·rw [if_pos e, e]; simp
  ·rw [if_neg e, decide_eq_false (fun hh => e (List.cons.inj hh).1)]
theorem pick_is (row : List S64) : ∀ (cols : List Int) (i : Nat) (t : List S64), inR row cols → i + cols.length ≤ 8 → t.length = 8 → ∃ u, pickP row i cols t = some (u, fullB row cols) ∧ u.length = 8 ∧ u.take i = t.take i ∧
  (fullB row cols = true → u = t.take i ++ (vals row cols ++ t.drop (i + cols.length))) ∧ (fullB row cols = false → ∃ j x, j < cols.length ∧ u[i + j]? = some x ∧ x.f0 = 0)
 | [], i, t, _, _, ht => ⟨t, rfl, ht, rfl, fun _ => by simp [vals], fun h => by simp [fullB] at h⟩
 | c :: r, i, t, h, h8, ht => by
  have g := h c (by simp)
  rw [List.length_cons] at h8
  rw [pickP, if_pos ⟨by omega, g.1, g.2⟩]
  by_cases q : (rd_T64 row c).f0 = 0
  ·have hf : fullB row (c :: r) = false := by unfold fullB; rw [List.all_cons, decide_eq_false (fun e => e q)]; rfl
   rw [if_pos q, hf]
   refine ⟨_, rfl, by simpa using ht, by rw [List.take_set_of_le (Nat.le_refl i)], (fun e => by cases e), fun _ => ⟨0, rd_T64 row c, by simp, by rw [Nat.add_zero, List.getElem?_set_self (by omega)], q⟩⟩
  ·have hf : fullB row (c :: r) = fullB row r := by unfold fullB; rw [List.all_cons, decide_eq_true q]; rfl
   obtain ⟨u, h1, h2, h3, h4, h5⟩ := pick_is row r (i + 1) (t.set i (rd_T64 row c)) (fun x hx => h x (by simp [hx])) (by omega) (by simpa using ht)
   have ht1 : (t.set i (rd_T64 row c)).take (i + 1) = t.take i ++ [rd_T64 row c] := by
    rw [List.take_add_one, List.getElem?_set_self (by omega), List.take_set_of_le (Nat.le_refl i)]; rfl
   rw [if_neg q, hf]
   refine ⟨u, h1, h2, ?_, fun e => ?_, fun e => ?_⟩
   ·have := congrArg (List.take i) h3
    rw [ht1, List.take_take, List.take_append_of_le_length (by rw [List.length_take]; omega), List.take_take] at this
    simpa using this
   ·rw [h4 e, ht1, List.drop_set_of_lt (by omega), List.length_cons, List.append_assoc]
    unfold vals
    rw [List.map_cons, show i + 1 + r.length = i + (r.length + 1) by omega]
    rfl
   ·obtain ⟨j, x, hj, hx, h0⟩ := h5 e
    exact ⟨j + 1, x, by rw [List.length_cons]; omega, by rw [← hx]; congr 1; omega, h0⟩
def pad (n : Nat) : List S64 := tup0.drop n
theorem pick0 (row : List S64) (cols : List Int) (h : inR row cols) (h8 : cols.length ≤ 8) : ∃ u, pickP row 0 cols tup0 = some (u, fullB row cols) ∧ (fullB row cols = true → u = vals row cols ++ pad cols.length) ∧
  (fullB row cols = false → ∀ v : List S64, v.length = cols.length → (∀ x ∈ v, x.f0 ≠ 0) → v ++ pad cols.length ≠ u) := by
 obtain ⟨u, h1, h2, _, h4, h5⟩ := pick_is row cols 0 tup0 h (by omega) rfl
 refine ⟨u, h1, fun e => by simpa [pad] using h4 e, fun e v hv hx hu => ?_⟩
 obtain ⟨j, x, hj, hxj, h0⟩ := h5 e
 rw [Nat.zero_add, ← hu, List.getElem?_append_left (by omega)] at hxj
 exact hx x (List.mem_of_getElem? hxj) h0
theorem vals_len (row : List S64) (cols : List Int) : (vals row cols).length = cols.length := by unfold vals; rw [List.length_map]
def KB (key : List Int) : List (List S64) → List (List S64) → Bool
 | _, [] => true
 | p, row :: r => if (fullB row key && p.any fun y => decide (vals row key = vals y key)) = true then false else KB key (p ++ [row]) r
theorem keyRows_is (key : List Int) (h8 : key.length ≤ 8) : ∀ (rows S p : List (List S64)), (∀ row ∈ rows, inR row key) →
  (∀ v : List S64, v.length = key.length → (∀ x ∈ v, x.f0 ≠ 0) → (v ++ pad key.length ∈ S ↔ ∃ y ∈ p, v = vals y key)) → keyRowsP key rows S = some (KB key p rows)
 | [], _, _, _, _ => rfl
 | row :: r, S, p, h, hS => by
  obtain ⟨u, h1, h2, h3⟩ := pick0 row key (h row (by simp)) h8
  rw [keyRowsP, h1, Option.bind_some, KB]
  cases hf : fullB row key with
  | true =>
   have hfull := (fullB_vals row key).1 hf
   have hu := h2 hf
   have hm : memP u S = p.any fun y => decide (vals row key = vals y key) := by
    rw [Bool.eq_iff_iff, memP_iff, hu, hS _ (vals_len row key) hfull, List.any_eq_true]
    constructor
    ·rintro ⟨y, hy, e⟩; exact ⟨y, hy, decide_eq_true e⟩
    ·rintro ⟨y, hy, e⟩; exact ⟨y, hy, of_decide_eq_true e⟩
   simp only [Bool.true_and, if_true]
   rw [hm]
   cases hq : p.any fun y => decide (vals row key = vals y key) with
   | true => rfl
   | false =>
    rw [if_neg (by decide), if_neg (by decide)]
    refine keyRows_is key h8 r _ _ (fun x hx => h x (by simp [hx])) (fun v hv hx => ?_)
    rw [List.mem_cons, hS v hv hx, hu]
    constructor
    ·rintro (e | ⟨y, hy, e⟩)
     ·exact ⟨row, by simp, (List.append_inj e (by rw [hv, vals_len])).1⟩
     ·exact ⟨y, by simp [hy], e⟩
    ·rintro ⟨y, hy, e⟩
     rcases List.mem_append.1 hy with hy | hy
     ·exact .inr ⟨y, hy, e⟩
     ·left; rw [e, List.mem_singleton.1 hy]
  | false =>
   simp only [Bool.false_and, Bool.false_eq_true, if_false]
   refine keyRows_is key h8 r _ _ (fun x hx => h x (by simp [hx])) (fun v hv hx => ?_)
   rw [hS v hv hx]
   constructor
   ·rintro ⟨y, hy, e⟩; exact ⟨y, by simp [hy], e⟩
   ·rintro ⟨y, hy, e⟩
    rcases List.mem_append.1 hy with hy | hy
    ·exact ⟨y, hy, e⟩
    ·rw [List.mem_singleton.1 hy] at e
     have : fullB row key = true := (fullB_vals row key).2 (by rw [← e]; exact hx)
     rw [hf] at this; cases this
theorem khIn_is (x : List S64) (key : List Int) (hx : inR x key) : ∀ l : List (List S64), (∀ row ∈ l, inR row key) → khIn x key l = some (l.any fun y => decide (vals x key = vals y key))
 | [], _ => rfl
 | y :: r, h => by
  rw [khIn, alikeP_is x y key key rfl hx (h y (by simp)), Option.bind_some, khIn_is x key hx r (fun z hz => h z (by simp [hz])), List.any_cons]
  cases decide (vals x key = vals y key) <;> rfl
theorem kh_is (rows : List (List S64)) (key : List Int) (h : ∀ row ∈ rows, inR row key) : ∀ (d i : Nat), i + d = rows.length → khP rows key d i = some (KB key (rows.take i) (rows.drop i)) := by
 intro d
 induction d with
 | zero => intro i hi; rw [khP, List.drop_eq_nil_of_le (by omega)]; rfl
 | succ d ih =>
  intro i hi
  have hlt : i < rows.length := by omega
  have hrow := h _ (List.getElem_mem hlt)
  rw [khP, rdL12 hlt, fullP_is _ _ hrow, Option.bind_some, khIn_is _ _ hrow _ (fun z hz => h z (List.mem_of_mem_take hz)), Option.bind_some, ih (i + 1) (by omega), List.drop_eq_getElem_cons hlt, KB, List.take_add_one, List.getElem?_eq_getElem hlt]
  cases fullB rows[i] key <;> cases ((rows.take i).any fun y => decide (vals rows[i] key = vals y key)) <;> rfl
theorem keys_is (rows : List (List S64)) : ∀ keys : List (List Int), (∀ key ∈ keys, key.length ≤ 8 ∧ ∀ row ∈ rows, inR row key) → keysP rows keys = some (keys.all fun k => KB k [] rows) ∧ refKeysP rows keys = some (keys.all fun k => KB k [] rows)
 | [], _ => ⟨rfl, rfl⟩
 | k :: r, h => by
  obtain ⟨h1, h2⟩ := keys_is rows r (fun x hx => h x (by simp [hx]))
  obtain ⟨g1, g2⟩ := h k (by simp)
  rw [keysP, refKeysP, keyRows_is k g1 rows [] [] g2 (fun v _ _ => by simp), kh_is rows k g2 rows.length 0 (by omega), Option.bind_some, Option.bind_some, h1, h2, List.all_cons, List.take_zero, List.drop_zero]
  cases KB k [] rows <;> exact ⟨rfl, rfl⟩
def RB (cols key : List Int) (others rows : List (List S64)) : Bool := rows.all fun row => !(fullB row cols) || others.any fun y => decide (vals row cols = vals y key)
theorem known_is (key : List Int) (h8 : key.length ≤ 8) : ∀ (others S : List (List S64)), (∀ row ∈ others, inR row key) → ∃ S', knownP key others S = some S' ∧
  ∀ v : List S64, v.length = key.length → (∀ x ∈ v, x.f0 ≠ 0) → (v ++ pad key.length ∈ S' ↔ v ++ pad key.length ∈ S ∨ ∃ y ∈ others, v = vals y key)
 | [], S, _ => ⟨S, rfl, fun v _ _ => by simp⟩
 | row :: r, S, h => by
  obtain ⟨u, h1, h2, h3⟩ := pick0 row key (h row (by simp)) h8
  obtain ⟨S', e, hS⟩ := known_is key h8 r (u :: S) (fun x hx => h x (by simp [hx]))
  refine ⟨S', by rw [knownP, h1, Option.bind_some]; exact e, fun v hv hx => ?_⟩
  rw [hS v hv hx, List.mem_cons]
  cases hf : fullB row key with
  | true =>
   rw [h2 hf]
   constructor
   ·rintro ((e | e) | ⟨y, hy, e⟩)
    ·exact .inr ⟨row, by simp, (List.append_inj e (by rw [hv, vals_len])).1⟩
    ·exact .inl e
    ·exact .inr ⟨y, by simp [hy], e⟩
   ·rintro (e | ⟨y, hy, e⟩)
    ·exact .inl (.inr e)
    ·rcases List.mem_cons.1 hy with rfl | hy
     ·exact .inl (.inl (by rw [e]))
     ·exact .inr ⟨y, hy, e⟩
  | false =>
   have := h3 hf v hv hx
   constructor
   ·rintro ((e | e) | ⟨y, hy, e⟩)
    ·exact absurd e this
    ·exact .inl e
    ·exact .inr ⟨y, by simp [hy], e⟩
   ·rintro (e | ⟨y, hy, e⟩)
    ·exact .inl (.inr e)
    ·rcases List.mem_cons.1 hy with rfl | hy
     ·have hc : fullB y key = true := (fullB_vals y key).2 (by rw [← e]; exact hx)
      rw [hf] at hc; cases hc
     ·exact .inr ⟨y, hy, e⟩
theorem allKnown_is (cols key : List Int) (hl : cols.length = key.length) (h8 : key.length ≤ 8) (others S : List (List S64))
  (hS : ∀ v : List S64, v.length = key.length → (∀ x ∈ v, x.f0 ≠ 0) → (v ++ pad key.length ∈ S ↔ ∃ y ∈ others, v = vals y key)) : ∀ rows : List (List S64), (∀ row ∈ rows, inR row cols) → allKnownP cols S rows = some (RB cols key others rows)
 | [], _ => rfl
 | row :: r, h => by
  obtain ⟨u, h1, h2, h3⟩ := pick0 row cols (h row (by simp)) (by omega)
  have ih := allKnown_is cols key hl h8 others S hS r (fun x hx => h x (by simp [hx]))
  unfold RB at ih ⊢
  rw [allKnownP, h1, Option.bind_some, ih, List.all_cons]
  cases hf : fullB row cols with
  | false => simp
  | true =>
   have hfull := (fullB_vals row cols).1 hf
   have hm : memP u S = others.any fun y => decide (vals row cols = vals y key) := by
    rw [Bool.eq_iff_iff, memP_iff, h2 hf, hl, hS _ (by rw [vals_len, hl]) hfull, List.any_eq_true]
    constructor
    ·rintro ⟨y, hy, e⟩; exact ⟨y, hy, decide_eq_true e⟩
    ·rintro ⟨y, hy, e⟩; exact ⟨y, hy, of_decide_eq_true e⟩
   simp only [Bool.true_and, Bool.not_true, Bool.false_or]
   rw [hm]
   cases others.any fun y => decide (vals row cols = vals y key) <;> simp
theorem rhIn_true (row : List S64) (cols key : List Int) : ∀ l : List (List S64), rhIn row cols key true l = some true
 | [] => rfl
 | _ :: _ => rfl
theorem rhIn_is (row : List S64) (cols key : List Int) (hl : cols.length = key.length) (hr : inR row cols) : ∀ l : List (List S64), (∀ y ∈ l, inR y key) → rhIn row cols key false l = some (l.any fun y => decide (vals row cols = vals y key))
 | [], _ => rfl
 | y :: r, h => by
  rw [rhIn, alikeP_is row y cols key hl hr (h y (by simp)), Option.bind_some, List.any_cons]
  cases decide (vals row cols = vals y key) with
  | true => rw [rhIn_true]; rfl
  | false => rw [rhIn_is row cols key hl hr r (fun z hz => h z (by simp [hz])), Bool.false_or]
theorem rh_is (cols key : List Int) (hl : cols.length = key.length) (others : List (List S64)) (ho : ∀ y ∈ others, inR y key) : ∀ rows : List (List S64), (∀ row ∈ rows, inR row cols) → rhP cols others key rows = some (RB cols key others rows)
 | [], _ => rfl
 | row :: r, h => by
  have ih := rh_is cols key hl others ho r (fun x hx => h x (by simp [hx]))
  unfold RB at ih ⊢
  rw [rhP, fullP_is row cols (h row (by simp)), Option.bind_some, ih, List.all_cons]
  cases fullB row cols with
  | false => rw [Bool.not_false, rhIn_true, Option.bind_some]; rfl
  | true =>
   rw [Bool.not_true, rhIn_is row cols key hl (h row (by simp)) others ho, Option.bind_some, Bool.false_or]
   cases others.any fun y => decide (vals row cols = vals y key) <;> rfl
def refHB (s : List S49) (d : List (List (List S64))) (n : Nat) (r : S75) : Bool := RB r.f0 (rd_L6 (rd_T49 s r.f1).f2 r.f2) (rd_L13 d r.f1) (rd_L13 d n)
def RefOk (s : List S49) (d : List (List (List S64))) (n : Nat) (r : S75) : Prop :=
 0 ≤ r.f1 ∧ r.f1 < (s.length : Int) ∧ r.f1 < (d.length : Int) ∧ 0 ≤ r.f2 ∧ r.f2 < ((rd_T49 s r.f1).f2.length : Int) ∧ r.f0.length = (rd_L6 (rd_T49 s r.f1).f2 r.f2).length ∧ (rd_L6 (rd_T49 s r.f1).f2 r.f2).length ≤ 8 ∧
  (∀ row ∈ rd_L13 d n, inR row r.f0) ∧ (∀ y ∈ rd_L13 d r.f1, inR y (rd_L6 (rd_T49 s r.f1).f2 r.f2))
theorem refs_is (s : List S49) (d : List (List (List S64))) (n : Nat) : ∀ l : List S75, (∀ r ∈ l, RefOk s d n r) → refsP s d n l = some (l.all (refHB s d n)) ∧ refRefsP s d n l = some (l.all (refHB s d n))
 | [], _ => ⟨rfl, rfl⟩
 | r :: l, h => by
  obtain ⟨h1, h2⟩ := refs_is s d n l (fun x hx => h x (by simp [hx]))
  obtain ⟨q1, q2, q3, q4, q5, q6, q7, q8, q9⟩ := h r (by simp)
  obtain ⟨S', e, hS⟩ := known_is _ q7 (rd_L13 d r.f1) [] q9
  rw [refsP, refRefsP, refP, if_pos ⟨q1, q2, q3, q4, q5⟩, if_pos ⟨q1, q2, q3, q4, q5⟩, e, Option.bind_some, allKnown_is r.f0 _ q6 q7 (rd_L13 d r.f1) S' (fun v hv hx => by rw [hS v hv hx]; simp) _ q8, rh_is r.f0 _ q6 _ q9 _ q8, Option.bind_some, Option.bind_some, h1, h2, List.all_cons]
  unfold refHB
  cases RB r.f0 (rd_L6 (rd_T49 s r.f1).f2 r.f2) (rd_L13 d r.f1) (rd_L13 d n) <;> exact ⟨rfl, rfl⟩
def holdsB (s : List S49) (d : List (List (List S64))) : Nat → Nat → Bool
 | 0, _ => true
 | g + 1, i => ((rd_T49 s i).f2.all fun k => KB k [] (rd_L13 d i)) && ((rd_T49 s i).f3.all (refHB s d i) && holdsB s d g (i + 1))
def dataB (s : List S49) (d : List (List (List S64))) : Bool := validB s && (decide (d.length = s.length) && (dataFitP s d && holdsB s d s.length 0))
theorem rowsFit_len {t : S49} : ∀ {rows : List (List S64)}, rowsFitP t rows = true → ∀ row ∈ rows, row.length = t.f1.length
 | [], _, row, h => by cases h
 | x :: r, h, row, hm => by
  rw [rowsFitP] at h
  split at h
  ·rename_i q
   rcases List.mem_cons.1 hm with rfl | hm
   ·unfold fitsRowP at q
    split at q
    ·assumption
    ·cases q
   ·exact rowsFit_len h row hm
  ·cases h
theorem dataFit_at : ∀ {s : List S49} {d : List (List (List S64))}, dataFitP s d = true → ∀ (n : Nat), n < s.length → n < d.length → (rd_L13 d (n : Int)).length ≤ 1000 ∧ rowsFitP (rd_T49 s (n : Int)) (rd_L13 d (n : Int)) = true
 | [], _, _, n, h1, _ => by simp at h1
 | _ :: _, [], _, n, _, h2 => by simp at h2
 | t :: s, rows :: d, h, n, h1, h2 => by
  rw [dataFitP] at h
  split at h
  ·cases h
  rename_i q
  split at h
  ·rename_i q2
   cases n with
   | zero => exact ⟨by show rows.length ≤ 1000; omega, q2⟩
   | succ n =>
    have := dataFit_at h n (by simpa using h1) (by simpa using h2)
    have e1 : rd_T49 (t :: s) ((n + 1 : Nat) : Int) = rd_T49 s (n : Int) := by unfold rd_T49; simp
    have e2 : rd_L13 (rows :: d) ((n + 1 : Nat) : Int) = rd_L13 d (n : Int) := by unfold rd_L13; simp
    rw [e1, e2]; exact this
  ·cases h
theorem tabsB_at (s : List S49) : ∀ (d i : Nat), i + d = s.length → tabsB s d i = true → ∀ j, i ≤ j → j < s.length → tabB (s.take j) (rd_T49 s (j : Int)) = true := by
 intro d
 induction d with
 | zero => intro i hi _ j h1 h2; omega
 | succ d ih =>
  intro i hi h j h1 h2
  rw [tabsB, Bool.and_eq_true] at h
  by_cases e : j = i
  ·rw [e]; exact h.1
  ·exact ih (i + 1) (by omega) h.2 j (by omega) h2
theorem validB_at {s : List S49} (h : validB s = true) : s.length ≤ 16 ∧ ∀ j, j < s.length → tabB (s.take j) (rd_T49 s (j : Int)) = true := by
 unfold validB at h
 simp only [Bool.and_eq_true] at h
 exact ⟨of_decide_eq_true h.1, fun j hj => tabsB_at s s.length 0 (by omega) h.2.2 j (by omega) hj⟩
theorem kindsG_in (tc oc : List S78) (all key : List Int) : ∀ (d i : Nat), i + d = all.length → kindsG tc oc all key d i = true → ∀ j, i ≤ j → j < all.length → 0 ≤ rd all (j : Int) ∧ rd all (j : Int) < (tc.length : Int) := by
 intro d
 induction d with
 | zero => intro i hi _ j h1 h2; omega
 | succ d ih =>
  intro i hi h j h1 h2
  rw [kindsG] at h
  split at h
  ·cases h
  split at h
  ·cases h
  split at h
  ·by_cases e : j = i
   ·rw [e]; omega
   ·exact ih (i + 1) (by omega) h j (by omega) h2
  ·cases h
theorem ref_ok {s : List S49} (hv : validB s = true) {d : List (List (List S64))} (hl : d.length = s.length) (hfit : ∀ n, n < s.length → ∀ row ∈ rd_L13 d (n : Int), row.length = (rd_T49 s (n : Int)).f1.length)
  (n : Nat) (hn : n < s.length) : ∀ r ∈ (rd_T49 s (n : Int)).f3, RefOk s d n r := by
 intro r hr
 obtain ⟨h16, hat⟩ := validB_at hv
 have hb := (tabB_facts (hat n hn)).2.2 r hr
 have hlen : (s.take n).length = n := by rw [List.length_take]; omega
 unfold refB at hb
 rw [hlen] at hb
 split at hb
 ·cases hb
 split at hb
 ·cases hb
 split at hb
 ·cases hb
 rename_i q1 q2 q3
 rw [rd49_take (by omega) (by omega)] at hb
 split at hb
 ·cases hb
 rename_i q4
 split at hb
 case isFalse => cases hb
 rename_i q5
 rw [Bool.and_eq_true] at hb
 have hj : r.f1.toNat < s.length := by omega
 have htab := tabB_facts (hat r.f1.toNat hj)
 rw [Int.toNat_of_nonneg (by omega)] at htab
 have hris := htab.2.1 _ (rdL6_mem (s := (rd_T49 s r.f1).f2) (i := r.f2) (by omega) (by omega))
 have hkin := kindsG_in _ _ _ _ r.f0.length 0 (by omega) hb.1
 refine ⟨by omega, by omega, by omega, by omega, by omega, by omega, ?_, ?_, ?_⟩
 ·have h1 := risB_len hris (by omega)
  have := htab.1
  omega
 ·intro row hrow c hc
  obtain ⟨j, hj, rfl⟩ := List.getElem_of_mem hc
  have := hkin j (by omega) hj
  rw [rd_at hj] at this
  rw [hfit n hn row hrow]
  exact this
 ·intro y hy q hq
  have h1 := hfit r.f1.toNat hj y (by rw [Int.toNat_of_nonneg (by omega)]; exact hy)
  rw [Int.toNat_of_nonneg (by omega)] at h1
  rw [h1]
  exact risB_in hris q hq
theorem key_ok {s : List S49} (hv : validB s = true) (n : Nat) (hn : n < s.length) {rows : List (List S64)} (hfit : ∀ row ∈ rows, row.length = (rd_T49 s (n : Int)).f1.length) : ∀ key ∈ (rd_T49 s (n : Int)).f2, key.length ≤ 8 ∧ ∀ row ∈ rows, inR row key := by
 intro key hk
 have htab := tabB_facts ((validB_at hv).2 n hn)
 have hris := htab.2.1 key hk
 refine ⟨?_, fun row hrow q hq => ?_⟩
 ·have h1 := risB_len hris (by omega)
  have := htab.1
  omega
 ·rw [hfit row hrow]; exact risB_in hris q hq
theorem holds_is {s : List S49} (hv : validB s = true) {d : List (List (List S64))} (hl : d.length = s.length) (hfit : dataFitP s d = true) : ∀ (g i : Nat), i + g = s.length → holdsP s d i (d.drop i) = some (holdsB s d g i) ∧ refHoldsP s d g i = some (holdsB s d g i) := by
 have hrow : ∀ n, n < s.length → ∀ row ∈ rd_L13 d (n : Int), row.length = (rd_T49 s (n : Int)).f1.length := fun n hn => rowsFit_len (dataFit_at hfit n hn (by omega)).2
 intro g
 induction g with
 | zero => intro i hi; rw [List.drop_eq_nil_of_le (by omega)]; exact ⟨rfl, rfl⟩
 | succ g ih =>
  intro i hi
  obtain ⟨h1, h2⟩ := ih (i + 1) (by omega)
  obtain ⟨k1, k2⟩ := keys_is (rd_L13 d (i : Int)) _ (key_ok hv i (by omega) (hrow i (by omega)))
  obtain ⟨r1, r2⟩ := refs_is s d i _ (ref_ok hv hl hrow i (by omega))
  rw [List.drop_eq_getElem_cons (by omega : i < d.length), holdsP, refHoldsP, ← rdL13 (by omega : i < d.length), k1, k2, r1, r2, holdsB, Option.bind_some, Option.bind_some, Option.bind_some, Option.bind_some, h1, h2]
  cases ((rd_T49 s (i : Int)).f2.all fun k => KB k [] (rd_L13 d (i : Int))) <;> cases (rd_T49 s (i : Int)).f3.all (refHB s d i) <;> exact ⟨rfl, rfl⟩
theorem refData_is (s : List S49) (d : List (List (List S64))) : refDataP s d = some (dataB s d) := by
 unfold refDataP dataB
 rw [refValid_is, Option.bind_some]
 cases hv : validB s with
 | false => rfl
 | true =>
  rw [if_pos rfl]
  by_cases q : d.length = s.length
  ·rw [if_pos q, decide_eq_true q]
   cases hf : dataFitP s d with
   | false => rfl
   | true => rw [if_pos rfl, (holds_is hv q hf s.length 0 (by omega)).2]; rfl
  ·rw [if_neg q, decide_eq_false q]; rfl
theorem data_is (s : List S49) (hw : ∀ t ∈ s, wfT t) (d : List (List (List S64))) : Ev (fun k => dataP k s d) (dataB s d) := by
 obtain ⟨K, hK⟩ := valid_is s hw
 refine ⟨K, fun k hk => ?_⟩
 have h := hK k hk
 simp only at h
 show dataP k s d = _
 unfold dataP dataB
 rw [h, Option.bind_some]
 cases hv : validB s with
 | false => rfl
 | true =>
  rw [if_pos rfl]
  by_cases q : d.length = s.length
  ·rw [if_pos q, decide_eq_true q]
   cases hf : dataFitP s d with
   | false => rfl
   | true =>
    have := (holds_is hv q hf s.length 0 (by omega)).1
    rw [List.drop_zero] at this
    rw [if_pos rfl, this]; rfl
  ·rw [if_neg q, decide_eq_false q]; rfl
theorem find_G (nm : ByteArray) : ∀ (l : List S49) (i : Nat), (0 ≤ findP nm i l → refFindG nm i l = (findP nm i l, true)) ∧ (¬ 0 ≤ findP nm i l → refFindG nm i l = (0, false))
 | [], i => ⟨fun h => by rw [findP] at h; omega, fun _ => rfl⟩
 | t :: l, i => by
  rw [findP, refFindG]
  by_cases q : t.f0 = nm
  ·rw [if_pos ((ba_eq _ _).2 q), if_pos q]
   exact ⟨fun _ => rfl, fun h => absurd (by omega) h⟩
  ·rw [if_neg (fun e => q ((ba_eq _ _).1 e)), if_neg q]
   exact find_G nm l (i + 1)
def findB (s : List S49) (nm : ByteArray) : Int × Bool := if validB s = true then refFindG nm 0 s else (0, false)
theorem refFind_is (s : List S49) (nm : ByteArray) : refFindP s nm = some (findB s nm) := by
 unfold refFindP findB
 rw [refValid_is, Option.bind_some]
 cases validB s <;> rfl
theorem dataB_facts {s : List S49} {d : List (List (List S64))} (h : dataB s d = true) : validB s = true ∧ d.length = s.length ∧ dataFitP s d = true ∧ holdsB s d s.length 0 = true := by
 unfold dataB at h
 simp only [Bool.and_eq_true] at h
 exact ⟨h.1, of_decide_eq_true h.2.1, h.2.2.1, h.2.2.2⟩
theorem fit_rows {s : List S49} {d : List (List (List S64))} (h : dataB s d = true) : ∀ n, n < s.length → ∀ row ∈ rd_L13 d (n : Int), row.length = (rd_T49 s (n : Int)).f1.length := by
 obtain ⟨hv, hl, hf, _⟩ := dataB_facts h
 exact fun n hn => rowsFit_len (dataFit_at hf n hn (by omega)).2
theorem small_of {s : List S49} {d : List (List (List S64))} (h : dataB s d = true) : smallData d := by
 obtain ⟨hv, hl, hf, _⟩ := dataB_facts h
 obtain ⟨h16, hat⟩ := validB_at hv
 refine ⟨by omega, fun rows hr => ?_⟩
 obtain ⟨n, hn, rfl⟩ := List.getElem_of_mem hr
 have h1 := dataFit_at hf n (by omega) hn
 have h2 := fit_rows h n (by omega)
 have h3 := (tabB_facts (hat n (by omega))).1
 rw [rdL13 hn] at h1 h2
 exact ⟨by have := h1.1; omega, fun row hrow => by rw [h2 row hrow]; omega⟩
theorem find_pos {s : List S49} (hv : validB s = true) (nm : ByteArray) : (0 ≤ findP nm 0 s → findB s nm = (findP nm 0 s, true)) ∧ (¬ 0 ≤ findP nm 0 s → findB s nm = (0, false)) := by
 unfold findB
 rw [if_pos hv]
 exact find_G nm s 0
end Go.Proofs.YthgfdnffnbclpaaGreatDoor.PAll
