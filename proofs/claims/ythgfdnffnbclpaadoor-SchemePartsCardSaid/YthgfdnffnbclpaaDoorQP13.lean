import Derived.Test.YthgfdnffnbclpaaDoorQP09
import Derived.Test.YthgfdnffnbclpaaDoorQP12
import Derived.Test.YthgfdnffnbclpaaDoorQP11
set_option linter.unusedVariables false
set_option linter.unusedSimpArgs false
namespace Go.Proofs.YthgfdnffnbclpaaDoor.PAll
open Go.RowKit Go.Proofs.YthgfdnffnbclpaaDoorW.PrintWords Go.Proofs.YthgfdnffnbclpaaDoorW.PrintLast Go.Proofs.YthgfdnffnbclpaaDoorW.PrintMore

def valP (x : S64) : Bool :=
  if x.f0 = 0 then (x.f1 == 0 && x.f2.toList == []) else if x.f0 = 1 then x.f2.toList == [] else if x.f0 = 2 then (x.f1 == 0 && decide ((x.f2.size : Int) ≤ 100)) else if x.f0 = 3 then (x.f2.toList == [] && decide (IntKind.u64.wrap x.f1 ≤ 1)) else false

set_option maxRecDepth 100000 in
theorem value_Valid_walk (x : S64) (w : World) :
    Calls Tryd.prog 75 #[.agg #[.int .u8 x.f0, .int .i64 x.f1, .string x.f2]] w fun e w' => e = .returned (.bool (valP x)) ∧ Below w.heap.size w w' := by
  have hu64 := Tryd.underlying64
  have HB : Aside0 (∀ o, Below w.heap.size w (w.alloc o)) := ⟨fun o => (Below.refl _ _).alloc (Nat.le_refl _) _⟩
  unfold valP
  by_cases q0 : x.f0 = 0
  · have d0 : (x.f0 == 0) = true := beq_iff_eq.mpr q0
    rw [if_pos q0]
    clear q0
    go_enter Tryd.func75, Tryd.ntmps75
    go_wp2
    all_goals (go_ret; exact ⟨by simp_all, HB.out _⟩)
  · have d0 : (x.f0 == 0) = false := beq_eq_false_iff_ne.mpr q0
    rw [if_neg q0]
    clear q0
    by_cases q1 : x.f0 = 1
    · have d1 : (x.f0 == 1) = true := beq_iff_eq.mpr q1
      rw [if_pos q1]
      clear q1
      go_enter Tryd.func75, Tryd.ntmps75
      go_wp2
      go_ret
      exact ⟨by first | rfl | (simp [*]; done), HB.out _⟩
    · have d1 : (x.f0 == 1) = false := beq_eq_false_iff_ne.mpr q1
      rw [if_neg q1]
      clear q1
      by_cases q2 : x.f0 = 2
      · have d2 : (x.f0 == 2) = true := beq_iff_eq.mpr q2
        rw [if_pos q2]
        clear q2
        cases d3 : (x.f1 == 0) <;> (go_enter Tryd.func75, Tryd.ntmps75; go_wp2; go_ret; exact ⟨by first | rfl | (simp [*]; done), HB.out _⟩)
      · have d2 : (x.f0 == 2) = false := beq_eq_false_iff_ne.mpr q2
        rw [if_neg q2]
        clear q2
        by_cases q3 : x.f0 = 3
        · have d3 : (x.f0 == 3) = true := beq_iff_eq.mpr q3
          rw [if_pos q3]
          clear q3
          cases d4 : (x.f2.toList == []) <;> (go_enter Tryd.func75, Tryd.ntmps75; go_wp2; go_ret; exact ⟨by first | rfl | (simp [*]; done), HB.out _⟩)
        · have d3 : (x.f0 == 3) = false := beq_eq_false_iff_ne.mpr q3
          rw [if_neg q3]
          clear q3
          go_enter Tryd.func75, Tryd.ntmps75
          go_wp2
          go_ret
          exact ⟨by first | rfl | (simp [*]; done), HB.out _⟩

/-- The error of a value in a column. -/
def fitsP (c : S78) (x : S64) : Int :=
  if valP x = true then
    (if (x.f0 == 0) = true then (if c.f2 = true then 74 else 0)
     else if (x.f0 == c.f1) = true then
      (if (x.f0 == 1) = true then (if decide (x.f1 < c.f3) = true then 75 else if decide (c.f4 < x.f1) = true then 75 else 0)
       else if (x.f0 == 2) = true then (if decide (c.f4 < (x.f2.size : Int)) = true then 75 else 0) else 0)
     else 79)
  else 79

set_option maxRecDepth 100000 in
theorem fits_walk (c : S78) (x : S64) (w : World) :
    Calls Tryd.prog 53 #[.agg #[.string c.f0, .int .u8 c.f1, .bool c.f2, .int .i64 c.f3, .int .i64 c.f4], .agg #[.int .u8 x.f0, .int .i64 x.f1, .string x.f2]] w fun e w' => e = .returned (.int .i64 (fitsP c x)) ∧ Below w.heap.size w w' := by
  obtain ⟨E, hE⟩ : ∃ E, E = (w.alloc (Obj.cells #[.string c.f0, .int .u8 c.f1, .bool c.f2, .int .i64 c.f3, .int .i64 c.f4] 78)).alloc (Obj.cells #[.int .u8 x.f0, .int .i64 x.f1, .string x.f2] 64) := ⟨_, rfl⟩
  obtain ⟨gb, hgb⟩ : ∃ g, g = w.heap.size := ⟨_, rfl⟩
  have HE : Aside0 (∀ W, Below E.heap.size E W → Below w.heap.size w W) := ⟨fun W hW => below_step (by rw [hE]; exact ((Below.refl _ _).alloc (Nat.le_refl _) _).alloc (by simp) _) hW⟩
  have HGB : E.heap[gb]? = some (.cells #[.string c.f0, .int .u8 c.f1, .bool c.f2, .int .i64 c.f3, .int .i64 c.f4] 78 (0, 0)) := by rw [hE, hgb, Go.Deep.blk_alloc_lt _ _ _ (by simp)]; exact Go.Deep.blk_alloc_new w _
  have HGT : E.heap[gb + 1]? = some (.cells #[.int .u8 x.f0, .int .i64 x.f1, .string x.f2] 64 (0, 0)) := by rw [hE, hgb]; have := Go.Deep.blk_alloc_new (w.alloc (Obj.cells #[.string c.f0, .int .u8 c.f1, .bool c.f2, .int .i64 c.f3, .int .i64 c.f4] 78)) (Obj.cells #[.int .u8 x.f0, .int .i64 x.f1, .string x.f2] 64); simpa using this
  have FC : Aside0 (∀ W, Below E.heap.size E W → W.cell? ⟨gb, 1, none⟩ = some (.int .u8 c.f1) ∧ W.cell? ⟨gb, 2, none⟩ = some (.bool c.f2) ∧ W.cell? ⟨gb, 3, none⟩ = some (.int .i64 c.f3) ∧ W.cell? ⟨gb, 4, none⟩ = some (.int .i64 c.f4) ∧ W.cell? ⟨gb + 1, 0, none⟩ = some (.int .u8 x.f0) ∧ W.cell? ⟨gb + 1, 1, none⟩ = some (.int .i64 x.f1) ∧ W.cell? ⟨gb + 1, 2, none⟩ = some (.string x.f2)) := ⟨fun W hW => by
    have h1 := (hW.block _ (blk_lt HGB)).trans HGB
    have h2 := (hW.block _ (blk_lt HGT)).trans HGT
    exact ⟨(blk_cell h1 1).trans rfl, (blk_cell h1 2).trans rfl, (blk_cell h1 3).trans rfl, (blk_cell h1 4).trans rfl, (blk_cell h2 0).trans rfl, (blk_cell h2 1).trans rfl, (blk_cell h2 2).trans rfl⟩⟩
  clear HGB HGT
  have HV := Aside0.mk (value_Valid_walk x E)
  obtain ⟨r, hr⟩ : ∃ r, r = fitsP c x := ⟨_, rfl⟩
  rw [← hr]
  have HRQ := Aside0.mk hr
  clear hr
  subst hE
  subst hgb
  go_enter Tryd.func53, Tryd.ntmps53
  go_upto_region 1 with (fail)
  generalize (w.alloc (Obj.cells #[.string c.f0, .int .u8 c.f1, .bool c.f2, .int .i64 c.f3, .int .i64 c.f4] 78)).alloc (Obj.cells #[.int .u8 x.f0, .int .i64 x.f1, .string x.f2] 64) = E at *
  obtain ⟨e1, e2, e3, e4, e5, e6, e7⟩ := FC.out E (Below.refl _ _)
  cases dv : valP x
  · rw [dv] at HV
    have DV := Aside0.mk dv
    clear dv
    go_wp2_with (go_at_call 75; refine HV.out.mono ?_; rintro e w1 ⟨rfl, hb1⟩; clear e1 e2 e3 e4 e5 e6 e7; obtain ⟨e1, e2, e3, e4, e5, e6, e7⟩ := FC.out w1 hb1)
    go_ret
    exact ⟨by rw [HRQ.out]; simp [fitsP, DV.out, *], HE.out _ hb1⟩
  rw [dv] at HV
  have DV := Aside0.mk dv
  clear dv
  cases d0 : (x.f0 == 0)
  · have n0 : (x.f0 != 0) = true := by rw [bne, d0]; rfl
    cases d1 : (x.f0 == c.f1)
    · have n1 : (x.f0 != c.f1) = true := by rw [bne, d1]; rfl
      go_wp2_with (go_at_call 75; refine HV.out.mono ?_; rintro e w1 ⟨rfl, hb1⟩; clear e1 e2 e3 e4 e5 e6 e7; obtain ⟨e1, e2, e3, e4, e5, e6, e7⟩ := FC.out w1 hb1)
      go_ret
      exact ⟨by rw [HRQ.out]; simp [fitsP, DV.out, *], HE.out _ hb1⟩
    · have n1 : (x.f0 != c.f1) = false := by rw [bne, d1]; rfl
      cases d2 : (x.f0 == 1)
      · cases d3 : (x.f0 == 2)
        · go_wp2_with (go_at_call 75; refine HV.out.mono ?_; rintro e w1 ⟨rfl, hb1⟩; clear e1 e2 e3 e4 e5 e6 e7; obtain ⟨e1, e2, e3, e4, e5, e6, e7⟩ := FC.out w1 hb1)
          go_ret
          exact ⟨by rw [HRQ.out]; simp [fitsP, DV.out, *], HE.out _ hb1⟩
        · cases d4 : decide (c.f4 < (x.f2.size : Int))
          · go_wp2_with (go_at_call 75; refine HV.out.mono ?_; rintro e w1 ⟨rfl, hb1⟩; clear e1 e2 e3 e4 e5 e6 e7; obtain ⟨e1, e2, e3, e4, e5, e6, e7⟩ := FC.out w1 hb1)
            go_ret
            exact ⟨by rw [HRQ.out]; simp [fitsP, DV.out, *], HE.out _ hb1⟩
          · go_wp2_with (go_at_call 75; refine HV.out.mono ?_; rintro e w1 ⟨rfl, hb1⟩; clear e1 e2 e3 e4 e5 e6 e7; obtain ⟨e1, e2, e3, e4, e5, e6, e7⟩ := FC.out w1 hb1)
            go_ret
            exact ⟨by rw [HRQ.out]; simp [fitsP, DV.out, *], HE.out _ hb1⟩
      · have d9 : (x.f0 == 2) = false := by rw [beq_iff_eq] at d2; rw [d2]; rfl
        cases d3 : decide (x.f1 < c.f3)
        · cases d4 : decide (c.f4 < x.f1)
          · go_wp2_with (go_at_call 75; refine HV.out.mono ?_; rintro e w1 ⟨rfl, hb1⟩; clear e1 e2 e3 e4 e5 e6 e7; obtain ⟨e1, e2, e3, e4, e5, e6, e7⟩ := FC.out w1 hb1)
            go_ret
            exact ⟨by rw [HRQ.out]; simp [fitsP, DV.out, *], HE.out _ hb1⟩
          · go_wp2_with (go_at_call 75; refine HV.out.mono ?_; rintro e w1 ⟨rfl, hb1⟩; clear e1 e2 e3 e4 e5 e6 e7; obtain ⟨e1, e2, e3, e4, e5, e6, e7⟩ := FC.out w1 hb1)
            go_ret
            exact ⟨by rw [HRQ.out]; simp [fitsP, DV.out, *], HE.out _ hb1⟩
        · go_wp2_with (go_at_call 75; refine HV.out.mono ?_; rintro e w1 ⟨rfl, hb1⟩; clear e1 e2 e3 e4 e5 e6 e7; obtain ⟨e1, e2, e3, e4, e5, e6, e7⟩ := FC.out w1 hb1)
          go_ret
          exact ⟨by rw [HRQ.out]; simp [fitsP, DV.out, *], HE.out _ hb1⟩
  · have n0 : (x.f0 != 0) = false := by rw [bne, d0]; rfl
    have d8 : (x.f0 == 1) = false := by rw [beq_iff_eq] at d0; rw [d0]; rfl
    have d9 : (x.f0 == 2) = false := by rw [beq_iff_eq] at d0; rw [d0]; rfl
    cases d1 : c.f2
    · go_wp2_with (go_at_call 75; refine HV.out.mono ?_; rintro e w1 ⟨rfl, hb1⟩; clear e1 e2 e3 e4 e5 e6 e7; obtain ⟨e1, e2, e3, e4, e5, e6, e7⟩ := FC.out w1 hb1)
      go_ret
      exact ⟨by rw [HRQ.out]; simp [fitsP, DV.out, *], HE.out _ hb1⟩
    · go_wp2_with (go_at_call 75; refine HV.out.mono ?_; rintro e w1 ⟨rfl, hb1⟩; clear e1 e2 e3 e4 e5 e6 e7; obtain ⟨e1, e2, e3, e4, e5, e6, e7⟩ := FC.out w1 hb1)
      go_ret
      exact ⟨by rw [HRQ.out]; simp [fitsP, DV.out, *], HE.out _ hb1⟩
end Go.Proofs.YthgfdnffnbclpaaDoor.PAll
namespace Go.Proofs.YthgfdnffnbclpaaDoor.PAll
open Go.RowKit Go.Proofs.YthgfdnffnbclpaaDoorW.PrintWords Go.Proofs.YthgfdnffnbclpaaDoorW.PrintLast Go.Proofs.YthgfdnffnbclpaaDoorW.PrintMore

/-- The error of the first value that does not fit. -/
def fitsL : List S78 → List S64 → Int
  | c :: cs, x :: xs => if fitsP c x = 0 then fitsL cs xs else fitsP c x
  | _, _ => 0
def fitsRowP (cols : List S78) (row : List S64) : Int := if row.length = cols.length then fitsL cols row else 78

set_option maxHeartbeats 4000000 in
set_option maxRecDepth 100000 in
theorem fitsRow_walk (a0 : ByteArray) (A1 : Option Addr) (c1 : Nat) (cols : List S78) (A2 : Option Addr) (n2 c2 : Nat) (A3 : Option Addr) (n3 c3 : Nat) (A4 : Option Addr) (n4 c4 : Nat) (A : Option Addr) (c : Nat) (row : List S64) (w : World)
    (h1 : Kd.C k78 w A1 cols.length cols) (hc1 : cols.length ≤ c1) (hR : Kd.C k64 w A row.length row) (hc : row.length ≤ c) :
    Calls Tryd.prog 27 #[.agg #[.string a0, .slice A1 cols.length c1, .slice A2 n2 c2, .slice A3 n3 c3, .slice A4 n4 c4], .slice A row.length c] w fun e w' => e = .returned (.int .i64 (fitsRowP cols row)) ∧ Below w.heap.size w w' := by
  obtain ⟨E, hE⟩ : ∃ E, E = w.alloc (Obj.cells #[.string a0, .slice A1 cols.length c1, .slice A2 n2 c2, .slice A3 n3 c3, .slice A4 n4 c4] 49) := ⟨_, rfl⟩
  obtain ⟨gb, hgb⟩ : ∃ g, g = w.heap.size := ⟨_, rfl⟩
  have HE : Aside0 (∀ W, Below E.heap.size E W → Below w.heap.size w W) := ⟨fun W hW => below_step (by rw [hE]; exact (Below.refl _ _).alloc (Nat.le_refl _) _) hW⟩
  have HGB : E.heap[gb]? = some (.cells #[.string a0, .slice A1 cols.length c1, .slice A2 n2 c2, .slice A3 n3 c3, .slice A4 n4 c4] 49 (0, 0)) := by rw [hE, hgb]; exact Go.Deep.blk_alloc_new w _
  have FC : Aside0 (∀ W, Below E.heap.size E W → W.cell? ⟨gb, 1, none⟩ = some (.slice A1 cols.length c1)) := ⟨fun W hW => (blk_cell ((hW.block _ (blk_lt HGB)).trans HGB) 1).trans rfl⟩
  clear HGB
  obtain ⟨r, hr⟩ : ∃ r, r = fitsRowP cols row := ⟨_, rfl⟩
  rw [← hr]
  have HRQ := Aside0.mk hr
  have H1 := Aside0.mk h1
  have HR := Aside0.mk hR
  clear hr h1 hR
  subst hE
  subst hgb
  go_enter Tryd.func27, Tryd.ntmps27
  go_upto_region 1 with (fail)
  generalize (w.alloc (Obj.cells #[.string a0, .slice A1 cols.length c1, .slice A2 n2 c2, .slice A3 n3 c3, .slice A4 n4 c4] 49)) = E at *
  have hB0 := Aside0.mk (Below.refl E.heap.size E)
  have e1 := FC.out E (Below.refl _ _)
  by_cases q : row.length = cols.length
  case neg =>
    have qi : ¬ ((row.length : Int) = (cols.length : Int)) := by omega
    have d1 : ((row.length : Int) == (cols.length : Int)) = false := beq_eq_false_iff_ne.mpr qi
    have d2 : ((row.length : Int) != (cols.length : Int)) = true := bne_iff_ne.mpr qi
    go_wp2
    go_ret
    exact ⟨by rw [HRQ.out]; simp [fitsRowP, q], HE.out _ hB0.out⟩
  have qi : ((row.length : Int) = (cols.length : Int)) := by omega
  have d1 : ((row.length : Int) == (cols.length : Int)) = true := beq_iff_eq.mpr qi
  have d2 : ((row.length : Int) != (cols.length : Int)) = false := by rw [bne, d1]; rfl
  have HQ := Aside0.mk q
  have HR0 : Aside0 (r = fitsL cols row) := ⟨by rw [HRQ.out, fitsRowP, if_pos q]⟩
  clear qi q HRQ
  go_wp2
  clear d1 d2 e1
  go_loopg [16] row.length (fun gk v16 wx => ∃ (i : Nat), i + gk = row.length ∧ v16 = .int .i64 i ∧ Aside0 (Below E.heap.size E wx) ∧ Aside0 (r = fitsL (cols.drop i) (row.drop i)))
  case atStart => exact ⟨0, by omega, rfl, hB0, by simpa using HR0⟩
  case round =>
    clear hB0 HR0
    obtain ⟨i, hi, rfl, HW, HP⟩ := hrel
    cases gk with
    | zero =>
      have e : row.drop i = [] := List.drop_eq_nil_of_le (by omega)
      have hp := HP.out
      rw [e] at hp
      have hp2 : r = 0 := by rw [hp]; cases cols.drop i <;> rfl
      have hii : ¬ (i : Int) < (row.length : Int) := by omega
      clear hp
      go_wp2
      go_ret
      exact ⟨by first | rfl | rw [hp2], HE.out _ HW.out⟩
    | succ gk =>
      have hlt : i < row.length := by omega
      have hltc : i < cols.length := by have := HQ.out; omega
      have hii : (i : Int) < (row.length : Int) := by omega
      have hic : (i : Int) < (cols.length : Int) := by omega
      have hi0 : (0 : Int) ≤ (i : Int) := by omega
      have hdr : row.drop i = row[i] :: row.drop (i + 1) := List.drop_eq_getElem_cons hlt
      have hdc : cols.drop i = cols[i] :: cols.drop (i + 1) := List.drop_eq_getElem_cons hltc
      have hrd : rd_T64 row (i : Int) = row[i] := by unfold rd_T64; simp [List.getD, hlt]
      have hrc : rd_T78 cols (i : Int) = cols[i] := by unfold rd_T78; simp [List.getD, hltc]
      obtain ⟨ad, hA, hx0, hx1, hx2⟩ := at_T64 HR.out (i : Int) hi0 hii
      cases hA
      obtain ⟨ac, hAc, hy0, hy1, hy2, hy3, hy4⟩ := at_T78 H1.out (i : Int) hi0 hic
      cases hAc
      rw [hrd, Int.toNat_natCast] at hx0 hx1 hx2
      rw [hrc, Int.toNat_natCast] at hy0 hy1 hy2 hy3 hy4
      have hBw := HE.out _ HW.out
      replace hx0 := (hBw.cell (World.block_lt_of_cell? w _ hx0)).trans hx0
      replace hx1 := (hBw.cell (World.block_lt_of_cell? w _ hx1)).trans hx1
      replace hx2 := (hBw.cell (World.block_lt_of_cell? w _ hx2)).trans hx2
      have HY : Aside0 (∀ W, Below wr.heap.size wr W → W.cell? (ac.add (i * 5)) = some (.string cols[i].f0) ∧ W.cell? ⟨(ac.add (i * 5)).block, (ac.add (i * 5)).off + 1, none⟩ = some (.int .u8 cols[i].f1) ∧ W.cell? ⟨(ac.add (i * 5)).block, (ac.add (i * 5)).off + 2, none⟩ = some (.bool cols[i].f2) ∧ W.cell? ⟨(ac.add (i * 5)).block, (ac.add (i * 5)).off + 3, none⟩ = some (.int .i64 cols[i].f3) ∧ W.cell? ⟨(ac.add (i * 5)).block, (ac.add (i * 5)).off + 4, none⟩ = some (.int .i64 cols[i].f4)) := ⟨fun W hW => by
        have hB := below_step hBw hW
        exact ⟨(hB.cell (World.block_lt_of_cell? w _ hy0)).trans hy0, (hB.cell (World.block_lt_of_cell? w _ hy1)).trans hy1, (hB.cell (World.block_lt_of_cell? w _ hy2)).trans hy2, (hB.cell (World.block_lt_of_cell? w _ hy3)).trans hy3, (hB.cell (World.block_lt_of_cell? w _ hy4)).trans hy4⟩⟩
      have hp := HP.out
      rw [hdr, hdc, fitsL] at hp
      clear hy0 hy1 hy2 hy3 hy4 HP hBw
      generalize row[i] = x at *
      generalize cols[i] = c at *
      have HP := Aside0.mk hp
      clear hp
      have HN := Aside0.mk (fits_walk c x)
      go_wp2
      obtain ⟨B, hB⟩ : ∃ B, B = wr.heap.size := ⟨_, rfl⟩
      obtain ⟨W1, hW1⟩ : ∃ W, W = wr.alloc (Obj.cells #[.int .u8 x.f0, .int .i64 x.f1, .string x.f2] 64) := ⟨_, rfl⟩
      have hBK : W1.heap[B]? = some (.cells #[.int .u8 x.f0, .int .i64 x.f1, .string x.f2] 64 (0, 0)) := by rw [hW1, hB]; exact Go.Deep.blk_alloc_new wr _
      have hBW : Below wr.heap.size wr W1 := by rw [hW1]; exact (Below.refl _ _).alloc (Nat.le_refl _) _
      rw [← hW1, ← hB]
      clear hW1 hB
      have KB : ∀ W, (Below W1.heap.size W1 W) → (W.cell? ⟨B, 0, none⟩ = some (.int .u8 x.f0) ∧ W.cell? ⟨B, 1, none⟩ = some (.int .i64 x.f1) ∧ W.cell? ⟨B, 2, none⟩ = some (.string x.f2)) ∧ W.cell? ⟨w.heap.size, 1, none⟩ = some (.slice (some ac) cols.length c1) ∧ (W.cell? (ac.add (i * 5)) = some (.string c.f0) ∧ W.cell? ⟨(ac.add (i * 5)).block, (ac.add (i * 5)).off + 1, none⟩ = some (.int .u8 c.f1) ∧ W.cell? ⟨(ac.add (i * 5)).block, (ac.add (i * 5)).off + 2, none⟩ = some (.bool c.f2) ∧ W.cell? ⟨(ac.add (i * 5)).block, (ac.add (i * 5)).off + 3, none⟩ = some (.int .i64 c.f3) ∧ W.cell? ⟨(ac.add (i * 5)).block, (ac.add (i * 5)).off + 4, none⟩ = some (.int .i64 c.f4)) ∧ Below W1.heap.size W1 W := fun W hW => by
        have hh := (hW.block _ (blk_lt hBK)).trans hBK
        exact ⟨⟨(blk_cell hh 0).trans rfl, (blk_cell hh 1).trans rfl, (blk_cell hh 2).trans rfl⟩, FC.out W (below_step HW.out (below_step hBW hW)), HY.out W (below_step hBW hW), hW⟩
      have hBB := Aside0.mk hBW
      clear hBK hBW hx0 hx1 hx2 hdr hdc hrd hrc
      have KD := KB _ (below_drew1 (Below.refl _ _))
      refine start_ (n := 8) (S := fun W => (W.cell? ⟨B, 0, none⟩ = some (.int .u8 x.f0) ∧ W.cell? ⟨B, 1, none⟩ = some (.int .i64 x.f1) ∧ W.cell? ⟨B, 2, none⟩ = some (.string x.f2)) ∧ W.cell? ⟨w.heap.size, 1, none⟩ = some (.slice (some ac) cols.length c1) ∧ (W.cell? (ac.add (i * 5)) = some (.string c.f0) ∧ W.cell? ⟨(ac.add (i * 5)).block, (ac.add (i * 5)).off + 1, none⟩ = some (.int .u8 c.f1) ∧ W.cell? ⟨(ac.add (i * 5)).block, (ac.add (i * 5)).off + 2, none⟩ = some (.bool c.f2) ∧ W.cell? ⟨(ac.add (i * 5)).block, (ac.add (i * 5)).off + 3, none⟩ = some (.int .i64 c.f3) ∧ W.cell? ⟨(ac.add (i * 5)).block, (ac.add (i * 5)).off + 4, none⟩ = some (.int .i64 c.f4)) ∧ Below W1.heap.size W1 W) (ds := []) #[false, false, false, false, false, false, false, false] (by kernel_rfl) rfl rfl KD (fun hHeld => ?_)
      clear KD
      refine pure_ (i := 0) (N := some 21) (v := ?_) (a' := ?_) #[true, false, false, false, false, false, false, false] rfl rfl (by kernel_rfl) (fun _ _ _ h => h) (Or.inl ⟨by rfl, ?_⟩) ?_ ?_
      rotate_left
      · intro w'; go_simp; with_reducible rfl
      rotate_left
      · simp only [Act.put, List.setIfInBounds_toArray, List.set_cons_zero, List.set_cons_succ, i64_w, i32_w]; rfl
      refine take_ (i := 1) (N := some 22) (v := ?_) (a' := ?_) #[true, true, false, false, false, false, false, false] rfl rfl (by kernel_rfl) (fun _ _ _ h => h) (Or.inl ⟨by rfl, ?_⟩) hHeld ?_ ?_
      rotate_left
      · rintro w' ⟨_, s0, _, _⟩; go_simp; with_reducible rfl
      rotate_left
      · simp only [Act.put, List.setIfInBounds_toArray, List.set_cons_zero, List.set_cons_succ, i64_w, i32_w]; rfl
      refine pure_ (i := 2) (N := some 23) (v := ?_) (a' := ?_) #[true, true, true, false, false, false, false, false] rfl rfl (by kernel_rfl) (fun _ _ _ h => h) (Or.inl ⟨by rfl, ?_⟩) ?_ ?_
      rotate_left
      · intro w'; go_simp; with_reducible rfl
      rotate_left
      · simp only [Act.put, List.setIfInBounds_toArray, List.set_cons_zero, List.set_cons_succ, i64_w, i32_w]; rfl
      refine pure_ (i := 3) (N := some 24) (v := ?_) (a' := ?_) #[true, true, true, true, false, false, false, false] rfl rfl (by kernel_rfl) (fun _ _ _ h => h) (Or.inl ⟨by rfl, ?_⟩) ?_ ?_
      rotate_left
      · intro w'; go_simp; with_reducible rfl
      rotate_left
      · simp only [Act.put, List.setIfInBounds_toArray, List.set_cons_zero, List.set_cons_succ, i64_w, i32_w]; rfl
      refine take_ (i := 4) (N := some 25) (v := ?_) (a' := ?_) #[true, true, true, true, true, false, false, false] rfl rfl (by kernel_rfl) (fun _ _ _ h => h) (Or.inl ⟨by rfl, ?_⟩) hHeld ?_ ?_
      rotate_left
      · rintro w' ⟨_, _, ⟨s0, s1, s2, s3, s4⟩, _⟩; go_simp; with_reducible rfl
      rotate_left
      · simp only [Act.put, List.setIfInBounds_toArray, List.set_cons_zero, List.set_cons_succ, i64_w, i32_w]; rfl
      refine take_ (i := 5) (N := some 26) (v := ?_) (a' := ?_) #[true, true, true, true, true, true, false, false] rfl rfl (by kernel_rfl) (fun _ _ _ h => h) (Or.inl ⟨by rfl, ?_⟩) hHeld ?_ ?_
      rotate_left
      · rintro w' ⟨⟨s0, s1, s2⟩, _⟩; go_simp; with_reducible rfl
      rotate_left
      · simp only [Act.put, List.setIfInBounds_toArray, List.set_cons_zero, List.set_cons_succ, i64_w, i32_w]; rfl
      refine one_ (i := 6) (N := some 27) #[true, true, true, true, true, true, true, false] rfl rfl (by kernel_rfl) (by decide) (fun K hK => ?_)
      refine goes_ Tryd.func53 (by kernel_rfl) rfl #[.agg #[.string c.f0, .int .u8 c.f1, .bool c.f2, .int .i64 c.f3, .int .i64 c.f4], .agg #[.int .u8 x.f0, .int .i64 x.f1, .string x.f2]] (by rfl) rfl rfl (by (try simp only [List.map_toArray, List.map_cons, List.map_nil]); first | done | rfl) ?_
      have hWd := below_step hBB.out hHeld.2.2.2
      refine (HN.out _).mono ?_
      rintro e w1 ⟨rfl, hb1⟩
      refine ⟨_, rfl, ?_⟩
      refine hK.out _ _ (KB _ (below_step hHeld.2.2.2 hb1)) (fun hHeld2 => ?_)
      clear hK K
      refine norm_ (a' := ?_) ?_ ?_
      rotate_left
      · show Act.put _ (some 27) _ = _; simp only [Act.put, List.setIfInBounds_toArray, List.set_cons_zero, List.set_cons_succ, i64_w, i32_w]; rfl
      refine pure_ (i := 7) (N := some 7) (v := ?_) (a' := ?_) #[true, true, true, true, true, true, true, true] rfl rfl (by kernel_rfl) (fun _ _ _ h => h) (Or.inl ⟨by rfl, ?_⟩) ?_ ?_
      rotate_left
      · intro w'; go_simp; with_reducible rfl
      rotate_left
      · simp only [Act.put, List.setIfInBounds_toArray, List.set_cons_zero, List.set_cons_succ, i64_w, i32_w]; rfl
      refine done_ (by kernel_rfl) ?_
      have HW2 := Aside0.mk (below_step HW.out (below_step hWd hb1))
      clear hWd hb1 hHeld hHeld2 KB HN HY
      by_cases q : fitsP c x = 0
      · have hp := HP.out
        rw [if_pos q] at hp
        have HP2 := Aside0.mk hp
        have d1 : (fitsP c x == 0) = true := beq_iff_eq.mpr q
        have d2 : (fitsP c x != 0) = false := by rw [bne, d1]; rfl
        clear hp q
        go_wp2
        go_roundg gk
        case measure => omega
        case rel => exact ⟨i + 1, by omega, by first | rfl | (simp; done) | (have := HR.out.2.1; simp; unfold wrap64; omega), HW2, HP2⟩
      · have hp := HP.out
        rw [if_neg q] at hp
        have d1 : (fitsP c x == 0) = false := beq_eq_false_iff_ne.mpr q
        have d2 : (fitsP c x != 0) = true := by rw [bne, d1]; rfl
        clear q HP
        go_wp2
        go_ret
        exact ⟨by (generalize fitsP c x = y at *; subst hp; first | rfl | (simp; done)), HE.out _ HW2.out⟩
end Go.Proofs.YthgfdnffnbclpaaDoor.PAll
namespace Go.Proofs.YthgfdnffnbclpaaDoor.PAll
open Go.RowKit Go.Proofs.YthgfdnffnbclpaaDoorW.PrintWords Go.Proofs.YthgfdnffnbclpaaDoorW.PrintLast Go.Proofs.YthgfdnffnbclpaaDoorW.PrintMore

def fullP (row : List S64) : List Int → Option Bool
  | [] => some true
  | c :: r => if 0 ≤ c ∧ c < (row.length : Int) then (if (rd_T64 row c).f0 = 0 then some false else fullP row r) else none
def alikeP (a b : List S64) : List Int → List Int → Option Bool
  | [], _ => some true
  | c :: cs, q :: qs => if 0 ≤ c ∧ c < (a.length : Int) ∧ 0 ≤ q ∧ q < (b.length : Int) then (if rd_T64 a c = rd_T64 b q then alikeP a b cs qs else some false) else none
  | _ :: _, [] => none
theorem same_is (x y : S64) : jointerref01_Same.f x.f0 x.f1 x.f2 y.f0 y.f1 y.f2 = some (decide (x = y)) := by
  unfold jointerref01_Same.f
  by_cases h : x = y
  · rw [h, if_pos rfl, if_pos rfl, decide_eq_true rfl]
    simp
  · rw [decide_eq_false h]
    by_cases h0 : x.f0 = y.f0
    · rw [if_pos h0]
      by_cases h1 : x.f1 = y.f1
      · rw [if_pos h1]
        have h2 : ¬ x.f2.toList = y.f2.toList := fun e => h (by cases x; cases y; simp at h0 h1; have := (ba_eq _ _).1 e; simp at this; rw [h0, h1, this])
        rw [beq_eq_false_iff_ne.mpr h2]
      · rw [if_neg h1]
    · rw [if_neg h0]

/-- Whether one of some rows is like a row in a key. -/
def khIn (x : List S64) (key : List Int) : List (List S64) → Option Bool
  | [] => some false
  | y :: r => (alikeP x y key key).bind fun b => if b = true then some true else khIn x key r
def khP (rows : List (List S64)) (key : List Int) : Nat → Nat → Option Bool
  | 0, _ => some true
  | g + 1, i => (fullP (rd_L12 rows i) key).bind fun f => if f = true then ((khIn (rd_L12 rows i) key (rows.take i)).bind fun b => if b = true then some false else khP rows key g (i + 1)) else khP rows key g (i + 1)
theorem rdL12 {l : List (List S64)} {i : Nat} (h : i < l.length) : rd_L12 l (i : Int) = l[i] := by unfold rd_L12; simp [List.getD, h]
def refKeysP (rows : List (List S64)) : List (List Int) → Option Bool
  | [] => some true
  | k :: r => (khP rows k rows.length 0).bind fun b => if b = true then refKeysP rows r else some false

/-- Whether one of the other rows is alike, or it is already known. -/
def rhIn (row : List S64) (cols key : List Int) : Bool → List (List S64) → Option Bool
  | is, [] => some is
  | true, _ :: _ => some true
  | false, y :: r => (alikeP row y cols key).bind fun b => rhIn row cols key b r
def rhP (cols : List Int) (others : List (List S64)) (key : List Int) : List (List S64) → Option Bool
  | [] => some true
  | row :: l => (fullP row cols).bind fun f => (rhIn row cols key (!f) others).bind fun b => if b = true then rhP cols others key l else some false

end Go.Proofs.YthgfdnffnbclpaaDoor.PAll
namespace Go.Proofs.YthgfdnffnbclpaaDoor.PAll
open Go.RowKit Go.Proofs.YthgfdnffnbclpaaDoorW.PrintWords Go.Proofs.YthgfdnffnbclpaaDoorW.PrintLast Go.Proofs.YthgfdnffnbclpaaDoorW.PrintMore

def rowsFitP (t : S49) : List (List S64) → Bool
  | [] => true
  | row :: r => if fitsRowP t.f1 row = 0 then rowsFitP t r else false
def dataFitP : List S49 → List (List (List S64)) → Bool
  | t :: s, rows :: d => if (rows.length : Int) > 1000 then false else if rowsFitP t rows = true then dataFitP s d else false
  | _, _ => true
def holdsP (s : List S49) (d : List (List (List S64))) : Nat → List (List (List S64)) → Option Bool
  | _, [] => some true
  | n, rows :: r => (keysP rows (rd_T49 s n).f2).bind fun a => if a = true then (refsP s d n (rd_T49 s n).f3).bind fun b => if b = true then holdsP s d (n + 1) r else some false else some false
def dataP (k : Nat) (s : List S49) (d : List (List (List S64))) : Option Bool :=
  (scheme_Valid.f k s).bind fun v => if v = true then (if d.length = s.length then (if dataFitP s d = true then holdsP s d 0 d else some false) else some false) else some false

set_option maxHeartbeats 4000000 in
set_option maxRecDepth 100000 in
theorem validData_walk (k : Nat) (A0 : Option Addr) (c0 : Nat) (s : List S49) (A1 : Option Addr) (c1 : Nat) (d : List (List (List S64))) (r : Bool) (w : World)
    (hS : Kd.C k49 w A0 s.length s) (hc0 : s.length ≤ c0) (hD : Kd.C (Kd.slice 51 (Kd.slice 64 k64)) w A1 d.length d) (hc1 : d.length ≤ c1) (hwf : ∀ rows ∈ d, ∀ row ∈ rows, ∀ x ∈ row, wfV x) (hL : LaidL w) (h : dataP k s d = some r) :
    Calls Tryd.prog 10 #[.slice A0 s.length c0, .slice A1 d.length c1] w fun e w' => e = .returned (.bool r) ∧ Below w.heap.size w w' := by
  have HS := Aside0.mk hS
  have HD := Aside0.mk hD
  have HWF := Aside0.mk hwf
  have HB0 := Aside0.mk (Below.refl w.heap.size w)
  unfold dataP at h
  obtain ⟨v, hv, h⟩ := Option.bind_eq_some_iff.mp h
  have HV := Aside0.mk (scheme_Valid.calls k A0 c0 s v w hS hc0 hv hL)
  have HH := Aside0.mk h
  clear hS hD hwf hL h hv
  go_enter Tryd.func10, Tryd.ntmps10
  cases v with
  | false =>
    have h := HH.out
    rw [if_neg (by decide)] at h
    obtain rfl := Option.some.inj h
    clear h
    go_wp2_with (go_at_call 9; refine HV.out.mono ?_; rintro e w1 ⟨rfl, hb1⟩)
    go_ret
    exact ⟨rfl, hb1⟩
  | true =>
    have h := HH.out
    rw [if_pos rfl] at h
    by_cases q : d.length = s.length
    case neg =>
      rw [if_neg q] at h
      obtain rfl := Option.some.inj h
      have qi : ¬ ((d.length : Int) = (s.length : Int)) := by omega
      have d1 : ((d.length : Int) == (s.length : Int)) = false := beq_eq_false_iff_ne.mpr qi
      have d2 : ((d.length : Int) != (s.length : Int)) = true := bne_iff_ne.mpr qi
      clear h HH q qi
      go_wp2_with (go_at_call 9; refine HV.out.mono ?_; rintro e w1 ⟨rfl, hb1⟩)
      go_ret
      exact ⟨rfl, hb1⟩
    rw [if_pos q] at h
    have qi : ((d.length : Int) = (s.length : Int)) := by omega
    have d1 : ((d.length : Int) == (s.length : Int)) = true := beq_iff_eq.mpr qi
    have d2 : ((d.length : Int) != (s.length : Int)) = false := by rw [bne, d1]; rfl
    have HQ := Aside0.mk q
    have HP := Aside0.mk h
    clear h HH q qi
    go_wp2_with (go_at_call 9; refine HV.out.mono ?_; rintro e w1 ⟨rfl, hb1⟩)
    have HB1 := Aside0.mk hb1
    clear hb1 d1 d2 HV HB0
    go_loopg [23] d.length (fun gk v23 wx => ∃ (n : Nat), n + gk = d.length ∧ v23 = .int .i64 n ∧ Aside0 (Below w.heap.size w wx) ∧ Aside0 ((if dataFitP (s.drop n) (d.drop n) = true then holdsP s d 0 d else some false) = some r))
    case atStart => exact ⟨0, by omega, rfl, HB1, by simpa using HP⟩
    case round =>
      clear HB1 HP
      obtain ⟨n, hn, rfl, HW, HP⟩ := hrel
      cases gk with
      | succ gk =>
        have hlt : n < d.length := by omega
        have hlts : n < s.length := by have := HQ.out; omega
        have hii : (n : Int) < (d.length : Int) := by omega
        have his : (n : Int) < (s.length : Int) := by omega
        have hi0 : (0 : Int) ≤ (n : Int) := by omega
        have hdr : d.drop n = d[n] :: d.drop (n + 1) := List.drop_eq_getElem_cons hlt
        have hds : s.drop n = s[n] :: s.drop (n + 1) := List.drop_eq_getElem_cons hlts
        have hrd : rd_L13 d (n : Int) = d[n] := by unfold rd_L13; simp [List.getD, hlt]
        have hrs : rd_T49 s (n : Int) = s[n] := by unfold rd_T49; simp [List.getD, hlts]
        obtain ⟨ad, Ar, cr, hA, hx, hcr, hCr⟩ := at_L13 HD.out (n : Int) hi0 hii
        cases hA
        rw [hrd] at hx hcr hCr
        rw [Int.toNat_natCast] at hx
        replace hx := (HW.out.cell (World.block_lt_of_cell? w _ hx)).trans hx
        have hp := HP.out
        rw [hdr, hds, dataFitP] at hp
        generalize d[n] = rows at *
        have HCR := Aside0.mk hCr
        by_cases q : (rows.length : Int) > 1000
        · rw [if_pos q, if_neg (by decide)] at hp
          obtain rfl := Option.some.inj hp
          have d1 : decide (1000 < (rows.length : Int)) = true := decide_eq_true q
          clear hp HP q hCr
          go_wp2
          go_ret
          exact ⟨rfl, HW.out⟩
        rw [if_neg q] at hp
        have d1 : decide (1000 < (rows.length : Int)) = false := decide_eq_false q
        obtain ⟨at_, A1, c1_, A2, c2, A3, c3, A4, c4, hAt, hy0, hy1, hy2, hy3, hy4, g1, h1, g2, h2, g3, h3, g4, h4⟩ := at_T49 HS.out (n : Int) hi0 his
        cases hAt
        rw [hrs] at hy0 hy1 hy2 hy3 hy4 g1 h1 g2 h2 g3 h3 g4 h4
        rw [Int.toNat_natCast] at hy0 hy1 hy2 hy3 hy4
        generalize s[n] = t at *
        have HF : Aside0 (∀ (A : Option Addr) (c : Nat) (row : List S64) (W : World), Below w.heap.size w W → Kd.C k64 W A row.length row → row.length ≤ c → Calls Tryd.prog 27 #[.agg #[.string t.f0, .slice A1 t.f1.length c1_, .slice A2 t.f2.length c2, .slice A3 t.f3.length c3, .slice A4 t.f4.length c4], .slice A row.length c] W fun e w' => e = .returned (.int .i64 (fitsRowP t.f1 row)) ∧ Below W.heap.size W w') := ⟨fun A c row W hW hC hc => fitsRow_walk t.f0 A1 c1_ t.f1 A2 _ c2 A3 _ c3 A4 _ c4 A c row W (Kd.C_below h1 hW) g1 hC hc⟩
        have HY : Aside0 (∀ W, Below w.heap.size w W → W.cell? (at_.add (n * 5)) = some (.string t.f0) ∧ W.cell? ⟨(at_.add (n * 5)).block, (at_.add (n * 5)).off + 1, none⟩ = some (.slice A1 t.f1.length c1_) ∧ W.cell? ⟨(at_.add (n * 5)).block, (at_.add (n * 5)).off + 2, none⟩ = some (.slice A2 t.f2.length c2) ∧ W.cell? ⟨(at_.add (n * 5)).block, (at_.add (n * 5)).off + 3, none⟩ = some (.slice A3 t.f3.length c3) ∧ W.cell? ⟨(at_.add (n * 5)).block, (at_.add (n * 5)).off + 4, none⟩ = some (.slice A4 t.f4.length c4)) := ⟨fun W hB =>
          ⟨(hB.cell (World.block_lt_of_cell? w _ hy0)).trans hy0, (hB.cell (World.block_lt_of_cell? w _ hy1)).trans hy1, (hB.cell (World.block_lt_of_cell? w _ hy2)).trans hy2, (hB.cell (World.block_lt_of_cell? w _ hy3)).trans hy3, (hB.cell (World.block_lt_of_cell? w _ hy4)).trans hy4⟩⟩
        have HP1 : Aside0 ((if rowsFitP t rows = true then (if dataFitP (s.drop (n + 1)) (d.drop (n + 1)) = true then holdsP s d 0 d else some false) else some false) = some r) := ⟨by
          rw [← hp]
          by_cases q1 : rowsFitP t rows = true
          · rw [if_pos q1, if_pos q1]
          · rw [if_neg q1, if_neg q1, if_neg (by decide)]⟩
        clear hp HP q hCr hy0 hy1 hy2 hy3 hy4 g1 h1 g2 h2 g3 h3 g4 h4 hdr hds hrd hrs
        go_wp2
        clear hx d1
        go_loopg [33] rows.length (fun gj v33 wx => ∃ (j : Nat), j + gj = rows.length ∧ v33 = .int .i64 j ∧ Aside0 (Below w.heap.size w wx) ∧ Aside0 ((if rowsFitP t (rows.drop j) = true then (if dataFitP (s.drop (n + 1)) (d.drop (n + 1)) = true then holdsP s d 0 d else some false) else some false) = some r))
        case atStart => exact ⟨0, by omega, rfl, HW, by simpa using HP1⟩
        case round =>
          clear HW HP1
          obtain ⟨j, hj, rfl, HW, HP⟩ := hrel
          rename_i gk1
          cases gk with
          | zero =>
            have e : rows.drop j = [] := List.drop_eq_nil_of_le (by omega)
            have hp := HP.out
            rw [e, rowsFitP, if_pos rfl] at hp
            have HP2 := Aside0.mk hp
            have hjj : ¬ (j : Int) < (rows.length : Int) := by omega
            clear hp HP
            go_wp2
            go_roundg gk
            case measure => omega
            case rel => exact ⟨n + 1, by omega, by first | rfl | (simp; done) | (have := HD.out.2.1; simp; unfold wrap64; omega), HW, HP2⟩
          | succ gk =>
            have hjlt : j < rows.length := by omega
            have hjj : (j : Int) < (rows.length : Int) := by omega
            have hj0 : (0 : Int) ≤ (j : Int) := by omega
            have hdrj : rows.drop j = rows[j] :: rows.drop (j + 1) := List.drop_eq_getElem_cons hjlt
            have hrdj : rd_L12 rows (j : Int) = rows[j] := by unfold rd_L12; simp [List.getD, hjlt]
            obtain ⟨adr, Aw, cw, hAw, hxw, hcw, hCw⟩ := at_L12 HCR.out (j : Int) hj0 hjj
            cases hAw
            rw [hrdj] at hxw hcw hCw
            rw [Int.toNat_natCast] at hxw
            replace hxw := (HW.out.cell (World.block_lt_of_cell? w _ hxw)).trans hxw
            have hp := HP.out
            rw [hdrj, rowsFitP] at hp
            generalize rows[j] = row at *
            obtain ⟨y0, y1, y2, y3, y4⟩ := HY.out wr HW.out
            have HN := Aside0.mk (HF.out Aw cw row wr HW.out (Kd.C_below hCw HW.out) hcw)
            by_cases q : fitsRowP t.f1 row = 0
            · rw [if_pos q] at hp
              have HP2 := Aside0.mk hp
              have d1 : (fitsRowP t.f1 row == 0) = true := beq_iff_eq.mpr q
              have d2 : (fitsRowP t.f1 row != 0) = false := by rw [bne, d1]; rfl
              clear hp q HP hCw hrdj hdrj HF HY
              go_wp2_with (go_at_call 27; refine HN.out.mono ?_; rintro e w1 ⟨rfl, hb1⟩)
              go_roundg gk
              case measure => omega
              case rel => exact ⟨j + 1, by omega, by first | rfl | (simp; done) | (have := HCR.out.2.1; simp; unfold wrap64; omega), ⟨below_step HW.out hb1⟩, HP2⟩
            · rw [if_neg q, if_neg (by decide)] at hp
              obtain rfl := Option.some.inj hp
              have d1 : (fitsRowP t.f1 row == 0) = false := beq_eq_false_iff_ne.mpr q
              have d2 : (fitsRowP t.f1 row != 0) = true := by rw [bne, d1]; rfl
              clear hp q HP hCw hrdj hdrj HF HY
              go_wp2_with (go_at_call 27; refine HN.out.mono ?_; rintro e w1 ⟨rfl, hb1⟩)
              go_ret
              exact ⟨rfl, below_step HW.out hb1⟩
      | zero =>
        have e : d.drop n = [] := List.drop_eq_nil_of_le (by omega)
        have hp := HP.out
        have hfit : dataFitP (s.drop n) [] = true := by cases s.drop n <;> rfl
        rw [e, hfit, if_pos rfl] at hp
        have HP2 := Aside0.mk hp
        have hii : ¬ (n : Int) < (d.length : Int) := by omega
        clear hp HP e hfit
        go_wp2
        clear hii hn
        go_loopg [48] d.length (fun gk v48 wx => ∃ (n : Nat), n + gk = d.length ∧ v48 = .int .i64 n ∧ Aside0 (Below w.heap.size w wx) ∧ Aside0 (holdsP s d n (d.drop n) = some r))
        case atStart => exact ⟨0, by omega, rfl, HW, by simpa using HP2⟩
        case round =>
          clear HW HP2
          obtain ⟨n, hn, rfl, HW, HP⟩ := hrel
          rename_i gk1
          cases gk with
          | zero =>
            have e : d.drop n = [] := List.drop_eq_nil_of_le (by omega)
            have hp := HP.out
            rw [e, holdsP] at hp
            obtain rfl := Option.some.inj hp
            have hii : ¬ (n : Int) < (d.length : Int) := by omega
            clear hp HP e
            go_wp2
            go_ret
            exact ⟨rfl, HW.out⟩
          | succ gk =>
            have hlt : n < d.length := by omega
            have hlts : n < s.length := by have := HQ.out; omega
            have hii : (n : Int) < (d.length : Int) := by omega
            have his : (n : Int) < (s.length : Int) := by omega
            have hi0 : (0 : Int) ≤ (n : Int) := by omega
            have hdr : d.drop n = d[n] :: d.drop (n + 1) := List.drop_eq_getElem_cons hlt
            have hrd : rd_L13 d (n : Int) = d[n] := by unfold rd_L13; simp [List.getD, hlt]
            have hmem : d[n] ∈ d := List.getElem_mem hlt
            obtain ⟨ad, Ar, cr, hA, hx, hcr, hCr⟩ := at_L13 HD.out (n : Int) hi0 hii
            cases hA
            rw [hrd] at hx hcr hCr
            rw [Int.toNat_natCast] at hx
            replace hx := (HW.out.cell (World.block_lt_of_cell? w _ hx)).trans hx
            have hp := HP.out
            rw [hdr, holdsP] at hp
            have hwr := HWF.out d[n] hmem
            clear hmem
            generalize d[n] = rows at *
            obtain ⟨a, ha, hp⟩ := Option.bind_eq_some_iff.mp hp
            obtain ⟨at_, A1, c1_, A2, c2, A3, c3, A4, c4, hAt, y0, y1, y2, y3, y4, g1, h1, g2, h2, g3, h3, g4, h4⟩ := at_T49 HS.out (n : Int) hi0 his
            cases hAt
            rw [Int.toNat_natCast] at y0 y1 y2 y3 y4
            replace y0 := (HW.out.cell (World.block_lt_of_cell? w _ y0)).trans y0
            replace y1 := (HW.out.cell (World.block_lt_of_cell? w _ y1)).trans y1
            replace y2 := (HW.out.cell (World.block_lt_of_cell? w _ y2)).trans y2
            replace y3 := (HW.out.cell (World.block_lt_of_cell? w _ y3)).trans y3
            replace y4 := (HW.out.cell (World.block_lt_of_cell? w _ y4)).trans y4
            have HN := Aside0.mk (keysHold_walk (rd_T49 s n).f0 A1 c1_ (rd_T49 s n).f1.length A2 c2 (rd_T49 s n).f2 A3 c3 (rd_T49 s n).f3.length A4 c4 (rd_T49 s n).f4.length Ar cr rows a wr (Kd.C_below h2 HW.out) g2 (Kd.C_below hCr HW.out) hcr hwr ha)
            have HP1 := Aside0.mk hp
            clear hp HP hCr g1 h1 g2 h2 g3 h3 g4 h4 hdr hrd hwr ha
            cases a with
            | false =>
              have hp := HP1.out
              rw [if_neg (by decide)] at hp
              obtain rfl := Option.some.inj hp
              clear hp HP1
              generalize rd_T49 s n = t at *
              go_wp2_with (go_at_call 28; refine HN.out.mono ?_; rintro e w1 ⟨rfl, hb1⟩)
              go_ret
              exact ⟨rfl, below_step HW.out hb1⟩
            | true =>
              have hp := HP1.out
              rw [if_pos rfl] at hp
              obtain ⟨b, hb, hp⟩ := Option.bind_eq_some_iff.mp hp
              have HR2 : Aside0 (∀ W, Below w.heap.size w W → Calls Tryd.prog 29 #[.slice (some at_) s.length c0, .slice (some ad) d.length c1, .int .i64 n] W fun e w' => e = .returned (.bool b) ∧ Below W.heap.size W w') := ⟨fun W hW => refsHold_walk (some at_) c0 s (some ad) c1 d n b W (Kd.C_below HS.out hW) hc0 (Kd.C_below HD.out hW) hc1 HWF.out hi0 his hii hb⟩
              have HP2 := Aside0.mk hp
              clear hp HP1 hb
              generalize rd_T49 s n = t at *
              cases b with
              | false =>
                have hp := HP2.out
                rw [if_neg (by decide)] at hp
                obtain rfl := Option.some.inj hp
                clear hp HP2
                go_wp2_with (first | (go_at_call 28; refine HN.out.mono ?_; rintro e w1 ⟨rfl, hb1⟩) | (go_at_call 29; refine (HR2.out _ (below_step HW.out hb1)).mono ?_; rintro e w2 ⟨rfl, hb2⟩))
                go_ret
                exact ⟨rfl, below_step (below_step HW.out hb1) hb2⟩
              | true =>
                have hp := HP2.out
                rw [if_pos rfl] at hp
                have HP3 := Aside0.mk hp
                clear hp HP2
                go_wp2_with (first | (go_at_call 28; refine HN.out.mono ?_; rintro e w1 ⟨rfl, hb1⟩) | (go_at_call 29; refine (HR2.out _ (below_step HW.out hb1)).mono ?_; rintro e w2 ⟨rfl, hb2⟩))
                go_roundg gk
                case measure => omega
                case rel => exact ⟨n + 1, by omega, by first | rfl | (simp; done) | (have := HD.out.2.1; simp; unfold wrap64; omega), ⟨below_step (below_step HW.out hb1) hb2⟩, HP3⟩
end Go.Proofs.YthgfdnffnbclpaaDoor.PAll
namespace Go.Proofs.YthgfdnffnbclpaaDoor.PAll
open Go.RowKit Go.Proofs.YthgfdnffnbclpaaDoorW.PrintWords Go.Proofs.YthgfdnffnbclpaaDoorW.PrintLast Go.Proofs.YthgfdnffnbclpaaDoorW.PrintMore

def refRefsP (s : List S49) (d : List (List (List S64))) (n : Nat) : List S75 → Option Bool
  | [] => some true
  | r :: l => if 0 ≤ r.f1 ∧ r.f1 < (s.length : Int) ∧ r.f1 < (d.length : Int) ∧ 0 ≤ r.f2 ∧ r.f2 < ((rd_T49 s r.f1).f2.length : Int) then
      (rhP r.f0 (rd_L13 d r.f1) (rd_L6 (rd_T49 s r.f1).f2 r.f2) (rd_L13 d n)).bind fun b => if b = true then refRefsP s d n l else some false
    else none

theorem rdL13 {l : List (List (List S64))} {i : Nat} (h : i < l.length) : rd_L13 l (i : Int) = l[i] := by unfold rd_L13; simp [List.getD, h]
def refHoldsP (s : List S49) (d : List (List (List S64))) : Nat → Nat → Option Bool
  | 0, _ => some true
  | g + 1, i => (refKeysP (rd_L13 d i) (rd_T49 s i).f2).bind fun a => if a = true then (refRefsP s d i (rd_T49 s i).f3).bind fun b => if b = true then refHoldsP s d g (i + 1) else some false else some false
end Go.Proofs.YthgfdnffnbclpaaDoor.PAll
namespace Go.Proofs.YthgfdnffnbclpaaDoor.PAll
open Go.RowKit Go.Proofs.YthgfdnffnbclpaaDoorW.PrintWords Go.Proofs.YthgfdnffnbclpaaDoorW.PrintLast Go.Proofs.YthgfdnffnbclpaaDoorW.PrintMore

def scheme_Find.f (k : Nat) (s : List S49) (nm : ByteArray) : Option (Int × Bool) :=
  if 0 ≤ findP nm 0 s then (scheme_Valid.f k s).bind fun v => if v = true then some (findP nm 0 s, true) else some (0, false) else some (0, false)

set_option maxHeartbeats 4000000 in
set_option maxRecDepth 100000 in
theorem scheme_Find.calls (k : Nat) (A0 : Option Addr) (c0 : Nat) (s : List S49) (nm : ByteArray) (r1 : Int) (r2 : Bool) (w : World) (hS : Kd.C k49 w A0 s.length s) (hc0 : s.length ≤ c0) (h : scheme_Find.f k s nm = some (r1, r2)) (hL : LaidL w) :
    Calls Tryd.prog 12 #[.slice A0 s.length c0, .string nm] w fun e w' => e = .returned (.tuple #[.int .i64 r1, .bool r2]) ∧ Below w.heap.size w w' := by
  unfold scheme_Find.f at h
  have HF := Aside0.mk (scheme_find.calls A0 c0 s nm (findP nm 0 s) w hS hc0 rfl)
  generalize findP nm 0 s = n at *
  by_cases q : 0 ≤ n
  · rw [if_pos q] at h
    have d1 : decide (0 ≤ n) = true := decide_eq_true q
    obtain ⟨v, hv, h⟩ := Option.bind_eq_some_iff.mp h
    have HV : Aside0 (∀ W, Below w.heap.size w W → Calls Tryd.prog 9 #[.slice A0 s.length c0] W fun e w' => e = .returned (.bool v) ∧ Below W.heap.size W w') := ⟨fun W hW => scheme_Valid.calls k A0 c0 s v W (Kd.C_below hS hW) hc0 hv (LaidL.below ⟨hL⟩ hW)⟩
    clear hS hL hv q
    cases v with
    | false =>
      rw [if_neg (by decide)] at h
      cases h
      go_enter Tryd.func12, Tryd.ntmps12
      go_wp2_with (first | (go_at_call 30; refine HF.out.mono ?_; rintro e w1 ⟨rfl, hb1⟩) | (go_at_call 9; refine (HV.out _ hb1).mono ?_; rintro e w2 ⟨rfl, hb2⟩))
      go_ret2
      exact ⟨rfl, below_step hb1 hb2⟩
    | true =>
      rw [if_pos rfl] at h
      cases h
      go_enter Tryd.func12, Tryd.ntmps12
      go_wp2_with (first | (go_at_call 30; refine HF.out.mono ?_; rintro e w1 ⟨rfl, hb1⟩) | (go_at_call 9; refine (HV.out _ hb1).mono ?_; rintro e w2 ⟨rfl, hb2⟩))
      go_ret2
      exact ⟨rfl, below_step hb1 hb2⟩
  · rw [if_neg q] at h
    cases h
    have d1 : decide (0 ≤ n) = false := decide_eq_false q
    clear q hS
    go_enter Tryd.func12, Tryd.ntmps12
    go_wp2_with (go_at_call 30; refine HF.out.mono ?_; rintro e w1 ⟨rfl, hb1⟩)
    go_ret2
    exact ⟨rfl, hb1⟩
end Go.Proofs.YthgfdnffnbclpaaDoor.PAll
namespace Go.Proofs.YthgfdnffnbclpaaDoor.PAll
open Go.RowKit Go.Proofs.YthgfdnffnbclpaaDoorW.PrintWords Go.Proofs.YthgfdnffnbclpaaDoorW.PrintLast Go.Proofs.YthgfdnffnbclpaaDoorW.PrintMore

def inR (row : List S64) (cols : List Int) : Prop := ∀ c ∈ cols, 0 ≤ c ∧ c < (row.length : Int)
def vals (row : List S64) (cols : List Int) : List S64 := cols.map (rd_T64 row)
def fullB (row : List S64) (cols : List Int) : Bool := cols.all fun c => decide ((rd_T64 row c).f0 ≠ 0)
theorem fullB_vals (row : List S64) (cols : List Int) : fullB row cols = true ↔ ∀ x ∈ vals row cols, x.f0 ≠ 0 := by
  unfold fullB vals
  rw [List.all_eq_true]
  constructor
  · intro h x hx
    obtain ⟨c, hc, rfl⟩ := List.mem_map.1 hx
    exact of_decide_eq_true (h c hc)
  · intro h c hc
    exact decide_eq_true (h _ (List.mem_map_of_mem hc))
theorem fullP_is (row : List S64) : ∀ cols : List Int, inR row cols → fullP row cols = some (fullB row cols)
  | [], _ => rfl
  | c :: r, h => by
    rw [fullP, if_pos (h c (by simp)), fullP_is row r (fun x hx => h x (by simp [hx]))]
    unfold fullB
    rw [List.all_cons]
    by_cases q : (rd_T64 row c).f0 = 0
    · rw [if_pos q, decide_eq_false (fun e => e q)]; rfl
    · rw [if_neg q, decide_eq_true q]; rfl
theorem alikeP_is (a b : List S64) : ∀ (cols key : List Int), cols.length = key.length → inR a cols → inR b key → alikeP a b cols key = some (decide (vals a cols = vals b key))
  | [], [], _, _, _ => rfl
  | [], _ :: _, h, _, _ => by simp at h
  | _ :: _, [], h, _, _ => by simp at h
  | c :: cs, q :: qs, h, h1, h2 => by
    have g1 := h1 c (by simp)
    have g2 := h2 q (by simp)
    rw [alikeP, if_pos ⟨g1.1, g1.2, g2.1, g2.2⟩, alikeP_is a b cs qs (by simpa using h) (fun x hx => h1 x (by simp [hx])) (fun x hx => h2 x (by simp [hx]))]
    unfold vals
    rw [List.map_cons, List.map_cons]
    by_cases e : rd_T64 a c = rd_T64 b q
    · rw [if_pos e, e]; simp
    · rw [if_neg e, decide_eq_false (fun hh => e (List.cons.inj hh).1)]
theorem pick_is (row : List S64) : ∀ (cols : List Int) (i : Nat) (t : List S64), inR row cols → i + cols.length ≤ 8 → t.length = 8 → ∃ u, pickP row i cols t = some (u, fullB row cols) ∧ u.length = 8 ∧ u.take i = t.take i ∧
    (fullB row cols = true → u = t.take i ++ (vals row cols ++ t.drop (i + cols.length))) ∧ (fullB row cols = false → ∃ j x, j < cols.length ∧ u[i + j]? = some x ∧ x.f0 = 0)
  | [], i, t, _, _, ht => ⟨t, rfl, ht, rfl, fun _ => by simp [vals], fun h => by simp [fullB] at h⟩
  | c :: r, i, t, h, h8, ht => by
    have g := h c (by simp)
    rw [List.length_cons] at h8
    rw [pickP, if_pos ⟨by omega, g.1, g.2⟩]
    by_cases q : (rd_T64 row c).f0 = 0
    · have hf : fullB row (c :: r) = false := by unfold fullB; rw [List.all_cons, decide_eq_false (fun e => e q)]; rfl
      rw [if_pos q, hf]
      refine ⟨_, rfl, by simpa using ht, by rw [List.take_set_of_le (Nat.le_refl i)], (fun e => by cases e), fun _ => ⟨0, rd_T64 row c, by simp, by rw [Nat.add_zero, List.getElem?_set_self (by omega)], q⟩⟩
    · have hf : fullB row (c :: r) = fullB row r := by unfold fullB; rw [List.all_cons, decide_eq_true q]; rfl
      obtain ⟨u, h1, h2, h3, h4, h5⟩ := pick_is row r (i + 1) (t.set i (rd_T64 row c)) (fun x hx => h x (by simp [hx])) (by omega) (by simpa using ht)
      have ht1 : (t.set i (rd_T64 row c)).take (i + 1) = t.take i ++ [rd_T64 row c] := by
        rw [List.take_add_one, List.getElem?_set_self (by omega), List.take_set_of_le (Nat.le_refl i)]; rfl
      rw [if_neg q, hf]
      refine ⟨u, h1, h2, ?_, fun e => ?_, fun e => ?_⟩
      · have := congrArg (List.take i) h3
        rw [ht1, List.take_take, List.take_append_of_le_length (by rw [List.length_take]; omega), List.take_take] at this
        simpa using this
      · rw [h4 e, ht1, List.drop_set_of_lt (by omega), List.length_cons, List.append_assoc]
        unfold vals
        rw [List.map_cons, show i + 1 + r.length = i + (r.length + 1) by omega]
        rfl
      · obtain ⟨j, x, hj, hx, h0⟩ := h5 e
        exact ⟨j + 1, x, by rw [List.length_cons]; omega, by rw [← hx]; congr 1; omega, h0⟩
def pad (n : Nat) : List S64 := tup0.drop n
theorem pick0 (row : List S64) (cols : List Int) (h : inR row cols) (h8 : cols.length ≤ 8) : ∃ u, pickP row 0 cols tup0 = some (u, fullB row cols) ∧ (fullB row cols = true → u = vals row cols ++ pad cols.length) ∧
    (fullB row cols = false → ∀ v : List S64, v.length = cols.length → (∀ x ∈ v, x.f0 ≠ 0) → v ++ pad cols.length ≠ u) := by
  obtain ⟨u, h1, h2, _, h4, h5⟩ := pick_is row cols 0 tup0 h (by omega) rfl
  refine ⟨u, h1, fun e => by simpa [pad] using h4 e, fun e v hv hx hu => ?_⟩
  obtain ⟨j, x, hj, hxj, h0⟩ := h5 e
  rw [Nat.zero_add, ← hu, List.getElem?_append_left (by omega)] at hxj
  exact hx x (List.mem_of_getElem? hxj) h0
theorem vals_len (row : List S64) (cols : List Int) : (vals row cols).length = cols.length := by unfold vals; rw [List.length_map]

/-! #### keys -/
def KB (key : List Int) : List (List S64) → List (List S64) → Bool
  | _, [] => true
  | p, row :: r => if (fullB row key && p.any fun y => decide (vals row key = vals y key)) = true then false else KB key (p ++ [row]) r
theorem keyRows_is (key : List Int) (h8 : key.length ≤ 8) : ∀ (rows S p : List (List S64)), (∀ row ∈ rows, inR row key) →
    (∀ v : List S64, v.length = key.length → (∀ x ∈ v, x.f0 ≠ 0) → (v ++ pad key.length ∈ S ↔ ∃ y ∈ p, v = vals y key)) → keyRowsP key rows S = some (KB key p rows)
  | [], _, _, _, _ => rfl
  | row :: r, S, p, h, hS => by
    obtain ⟨u, h1, h2, h3⟩ := pick0 row key (h row (by simp)) h8
    rw [keyRowsP, h1, Option.bind_some, KB]
    cases hf : fullB row key with
    | true =>
      have hfull := (fullB_vals row key).1 hf
      have hu := h2 hf
      have hm : memP u S = p.any fun y => decide (vals row key = vals y key) := by
        rw [Bool.eq_iff_iff, memP_iff, hu, hS _ (vals_len row key) hfull, List.any_eq_true]
        constructor
        · rintro ⟨y, hy, e⟩; exact ⟨y, hy, decide_eq_true e⟩
        · rintro ⟨y, hy, e⟩; exact ⟨y, hy, of_decide_eq_true e⟩
      simp only [Bool.true_and, if_true]
      rw [hm]
      cases hq : p.any fun y => decide (vals row key = vals y key) with
      | true => rfl
      | false =>
        rw [if_neg (by decide), if_neg (by decide)]
        refine keyRows_is key h8 r _ _ (fun x hx => h x (by simp [hx])) (fun v hv hx => ?_)
        rw [List.mem_cons, hS v hv hx, hu]
        constructor
        · rintro (e | ⟨y, hy, e⟩)
          · exact ⟨row, by simp, (List.append_inj e (by rw [hv, vals_len])).1⟩
          · exact ⟨y, by simp [hy], e⟩
        · rintro ⟨y, hy, e⟩
          rcases List.mem_append.1 hy with hy | hy
          · exact .inr ⟨y, hy, e⟩
          · left; rw [e, List.mem_singleton.1 hy]
    | false =>
      simp only [Bool.false_and, Bool.false_eq_true, if_false]
      refine keyRows_is key h8 r _ _ (fun x hx => h x (by simp [hx])) (fun v hv hx => ?_)
      rw [hS v hv hx]
      constructor
      · rintro ⟨y, hy, e⟩; exact ⟨y, by simp [hy], e⟩
      · rintro ⟨y, hy, e⟩
        rcases List.mem_append.1 hy with hy | hy
        · exact ⟨y, hy, e⟩
        · rw [List.mem_singleton.1 hy] at e
          have : fullB row key = true := (fullB_vals row key).2 (by rw [← e]; exact hx)
          rw [hf] at this; cases this
theorem khIn_is (x : List S64) (key : List Int) (hx : inR x key) : ∀ l : List (List S64), (∀ row ∈ l, inR row key) → khIn x key l = some (l.any fun y => decide (vals x key = vals y key))
  | [], _ => rfl
  | y :: r, h => by
    rw [khIn, alikeP_is x y key key rfl hx (h y (by simp)), Option.bind_some, khIn_is x key hx r (fun z hz => h z (by simp [hz])), List.any_cons]
    cases decide (vals x key = vals y key) <;> rfl
theorem kh_is (rows : List (List S64)) (key : List Int) (h : ∀ row ∈ rows, inR row key) : ∀ (d i : Nat), i + d = rows.length → khP rows key d i = some (KB key (rows.take i) (rows.drop i)) := by
  intro d
  induction d with
  | zero => intro i hi; rw [khP, List.drop_eq_nil_of_le (by omega)]; rfl
  | succ d ih =>
    intro i hi
    have hlt : i < rows.length := by omega
    have hrow := h _ (List.getElem_mem hlt)
    rw [khP, rdL12 hlt, fullP_is _ _ hrow, Option.bind_some, khIn_is _ _ hrow _ (fun z hz => h z (List.mem_of_mem_take hz)), Option.bind_some, ih (i + 1) (by omega), List.drop_eq_getElem_cons hlt, KB, List.take_add_one, List.getElem?_eq_getElem hlt]
    cases fullB rows[i] key <;> cases ((rows.take i).any fun y => decide (vals rows[i] key = vals y key)) <;> rfl
theorem keys_is (rows : List (List S64)) : ∀ keys : List (List Int), (∀ key ∈ keys, key.length ≤ 8 ∧ ∀ row ∈ rows, inR row key) → keysP rows keys = some (keys.all fun k => KB k [] rows) ∧ refKeysP rows keys = some (keys.all fun k => KB k [] rows)
  | [], _ => ⟨rfl, rfl⟩
  | k :: r, h => by
    obtain ⟨h1, h2⟩ := keys_is rows r (fun x hx => h x (by simp [hx]))
    obtain ⟨g1, g2⟩ := h k (by simp)
    rw [keysP, refKeysP, keyRows_is k g1 rows [] [] g2 (fun v _ _ => by simp), kh_is rows k g2 rows.length 0 (by omega), Option.bind_some, Option.bind_some, h1, h2, List.all_cons, List.take_zero, List.drop_zero]
    cases KB k [] rows <;> exact ⟨rfl, rfl⟩

/-! #### references -/
def RB (cols key : List Int) (others rows : List (List S64)) : Bool := rows.all fun row => !(fullB row cols) || others.any fun y => decide (vals row cols = vals y key)
theorem known_is (key : List Int) (h8 : key.length ≤ 8) : ∀ (others S : List (List S64)), (∀ row ∈ others, inR row key) → ∃ S', knownP key others S = some S' ∧
    ∀ v : List S64, v.length = key.length → (∀ x ∈ v, x.f0 ≠ 0) → (v ++ pad key.length ∈ S' ↔ v ++ pad key.length ∈ S ∨ ∃ y ∈ others, v = vals y key)
  | [], S, _ => ⟨S, rfl, fun v _ _ => by simp⟩
  | row :: r, S, h => by
    obtain ⟨u, h1, h2, h3⟩ := pick0 row key (h row (by simp)) h8
    obtain ⟨S', e, hS⟩ := known_is key h8 r (u :: S) (fun x hx => h x (by simp [hx]))
    refine ⟨S', by rw [knownP, h1, Option.bind_some]; exact e, fun v hv hx => ?_⟩
    rw [hS v hv hx, List.mem_cons]
    cases hf : fullB row key with
    | true =>
      rw [h2 hf]
      constructor
      · rintro ((e | e) | ⟨y, hy, e⟩)
        · exact .inr ⟨row, by simp, (List.append_inj e (by rw [hv, vals_len])).1⟩
        · exact .inl e
        · exact .inr ⟨y, by simp [hy], e⟩
      · rintro (e | ⟨y, hy, e⟩)
        · exact .inl (.inr e)
        · rcases List.mem_cons.1 hy with rfl | hy
          · exact .inl (.inl (by rw [e]))
          · exact .inr ⟨y, hy, e⟩
    | false =>
      have := h3 hf v hv hx
      constructor
      · rintro ((e | e) | ⟨y, hy, e⟩)
        · exact absurd e this
        · exact .inl e
        · exact .inr ⟨y, by simp [hy], e⟩
      · rintro (e | ⟨y, hy, e⟩)
        · exact .inl (.inr e)
        · rcases List.mem_cons.1 hy with rfl | hy
          · have hc : fullB y key = true := (fullB_vals y key).2 (by rw [← e]; exact hx)
            rw [hf] at hc; cases hc
          · exact .inr ⟨y, hy, e⟩
theorem allKnown_is (cols key : List Int) (hl : cols.length = key.length) (h8 : key.length ≤ 8) (others S : List (List S64))
    (hS : ∀ v : List S64, v.length = key.length → (∀ x ∈ v, x.f0 ≠ 0) → (v ++ pad key.length ∈ S ↔ ∃ y ∈ others, v = vals y key)) : ∀ rows : List (List S64), (∀ row ∈ rows, inR row cols) → allKnownP cols S rows = some (RB cols key others rows)
  | [], _ => rfl
  | row :: r, h => by
    obtain ⟨u, h1, h2, h3⟩ := pick0 row cols (h row (by simp)) (by omega)
    have ih := allKnown_is cols key hl h8 others S hS r (fun x hx => h x (by simp [hx]))
    unfold RB at ih ⊢
    rw [allKnownP, h1, Option.bind_some, ih, List.all_cons]
    cases hf : fullB row cols with
    | false => simp
    | true =>
      have hfull := (fullB_vals row cols).1 hf
      have hm : memP u S = others.any fun y => decide (vals row cols = vals y key) := by
        rw [Bool.eq_iff_iff, memP_iff, h2 hf, hl, hS _ (by rw [vals_len, hl]) hfull, List.any_eq_true]
        constructor
        · rintro ⟨y, hy, e⟩; exact ⟨y, hy, decide_eq_true e⟩
        · rintro ⟨y, hy, e⟩; exact ⟨y, hy, of_decide_eq_true e⟩
      simp only [Bool.true_and, Bool.not_true, Bool.false_or]
      rw [hm]
      cases others.any fun y => decide (vals row cols = vals y key) <;> simp
theorem rhIn_true (row : List S64) (cols key : List Int) : ∀ l : List (List S64), rhIn row cols key true l = some true
  | [] => rfl
  | _ :: _ => rfl
theorem rhIn_is (row : List S64) (cols key : List Int) (hl : cols.length = key.length) (hr : inR row cols) : ∀ l : List (List S64), (∀ y ∈ l, inR y key) → rhIn row cols key false l = some (l.any fun y => decide (vals row cols = vals y key))
  | [], _ => rfl
  | y :: r, h => by
    rw [rhIn, alikeP_is row y cols key hl hr (h y (by simp)), Option.bind_some, List.any_cons]
    cases decide (vals row cols = vals y key) with
    | true => rw [rhIn_true]; rfl
    | false => rw [rhIn_is row cols key hl hr r (fun z hz => h z (by simp [hz])), Bool.false_or]
theorem rh_is (cols key : List Int) (hl : cols.length = key.length) (others : List (List S64)) (ho : ∀ y ∈ others, inR y key) : ∀ rows : List (List S64), (∀ row ∈ rows, inR row cols) → rhP cols others key rows = some (RB cols key others rows)
  | [], _ => rfl
  | row :: r, h => by
    have ih := rh_is cols key hl others ho r (fun x hx => h x (by simp [hx]))
    unfold RB at ih ⊢
    rw [rhP, fullP_is row cols (h row (by simp)), Option.bind_some, ih, List.all_cons]
    cases fullB row cols with
    | false => rw [Bool.not_false, rhIn_true, Option.bind_some]; rfl
    | true =>
      rw [Bool.not_true, rhIn_is row cols key hl (h row (by simp)) others ho, Option.bind_some, Bool.false_or]
      cases others.any fun y => decide (vals row cols = vals y key) <;> rfl
def refHB (s : List S49) (d : List (List (List S64))) (n : Nat) (r : S75) : Bool := RB r.f0 (rd_L6 (rd_T49 s r.f1).f2 r.f2) (rd_L13 d r.f1) (rd_L13 d n)
/-- A reference that can be followed. -/
def RefOk (s : List S49) (d : List (List (List S64))) (n : Nat) (r : S75) : Prop :=
  0 ≤ r.f1 ∧ r.f1 < (s.length : Int) ∧ r.f1 < (d.length : Int) ∧ 0 ≤ r.f2 ∧ r.f2 < ((rd_T49 s r.f1).f2.length : Int) ∧ r.f0.length = (rd_L6 (rd_T49 s r.f1).f2 r.f2).length ∧ (rd_L6 (rd_T49 s r.f1).f2 r.f2).length ≤ 8 ∧
    (∀ row ∈ rd_L13 d n, inR row r.f0) ∧ (∀ y ∈ rd_L13 d r.f1, inR y (rd_L6 (rd_T49 s r.f1).f2 r.f2))
theorem refs_is (s : List S49) (d : List (List (List S64))) (n : Nat) : ∀ l : List S75, (∀ r ∈ l, RefOk s d n r) → refsP s d n l = some (l.all (refHB s d n)) ∧ refRefsP s d n l = some (l.all (refHB s d n))
  | [], _ => ⟨rfl, rfl⟩
  | r :: l, h => by
    obtain ⟨h1, h2⟩ := refs_is s d n l (fun x hx => h x (by simp [hx]))
    obtain ⟨q1, q2, q3, q4, q5, q6, q7, q8, q9⟩ := h r (by simp)
    obtain ⟨S', e, hS⟩ := known_is _ q7 (rd_L13 d r.f1) [] q9
    rw [refsP, refRefsP, refP, if_pos ⟨q1, q2, q3, q4, q5⟩, if_pos ⟨q1, q2, q3, q4, q5⟩, e, Option.bind_some, allKnown_is r.f0 _ q6 q7 (rd_L13 d r.f1) S' (fun v hv hx => by rw [hS v hv hx]; simp) _ q8, rh_is r.f0 _ q6 _ q9 _ q8, Option.bind_some, Option.bind_some, h1, h2, List.all_cons]
    unfold refHB
    cases RB r.f0 (rd_L6 (rd_T49 s r.f1).f2 r.f2) (rd_L13 d r.f1) (rd_L13 d n) <;> exact ⟨rfl, rfl⟩

/-! #### data -/
def holdsB (s : List S49) (d : List (List (List S64))) : Nat → Nat → Bool
  | 0, _ => true
  | g + 1, i => ((rd_T49 s i).f2.all fun k => KB k [] (rd_L13 d i)) && ((rd_T49 s i).f3.all (refHB s d i) && holdsB s d g (i + 1))
def dataB (s : List S49) (d : List (List (List S64))) : Bool := validB s && (decide (d.length = s.length) && (dataFitP s d && holdsB s d s.length 0))
theorem rowsFit_len {t : S49} : ∀ {rows : List (List S64)}, rowsFitP t rows = true → ∀ row ∈ rows, row.length = t.f1.length
  | [], _, row, h => by cases h
  | x :: r, h, row, hm => by
    rw [rowsFitP] at h
    split at h
    · rename_i q
      rcases List.mem_cons.1 hm with rfl | hm
      · unfold fitsRowP at q
        split at q
        · assumption
        · cases q
      · exact rowsFit_len h row hm
    · cases h
theorem dataFit_at : ∀ {s : List S49} {d : List (List (List S64))}, dataFitP s d = true → ∀ (n : Nat), n < s.length → n < d.length → (rd_L13 d (n : Int)).length ≤ 1000 ∧ rowsFitP (rd_T49 s (n : Int)) (rd_L13 d (n : Int)) = true
  | [], _, _, n, h1, _ => by simp at h1
  | _ :: _, [], _, n, _, h2 => by simp at h2
  | t :: s, rows :: d, h, n, h1, h2 => by
    rw [dataFitP] at h
    split at h
    · cases h
    rename_i q
    split at h
    · rename_i q2
      cases n with
      | zero => exact ⟨by show rows.length ≤ 1000; omega, q2⟩
      | succ n =>
        have := dataFit_at h n (by simpa using h1) (by simpa using h2)
        have e1 : rd_T49 (t :: s) ((n + 1 : Nat) : Int) = rd_T49 s (n : Int) := by unfold rd_T49; simp
        have e2 : rd_L13 (rows :: d) ((n + 1 : Nat) : Int) = rd_L13 d (n : Int) := by unfold rd_L13; simp
        rw [e1, e2]; exact this
    · cases h
theorem tabsB_at (s : List S49) : ∀ (d i : Nat), i + d = s.length → tabsB s d i = true → ∀ j, i ≤ j → j < s.length → tabB (s.take j) (rd_T49 s (j : Int)) = true := by
  intro d
  induction d with
  | zero => intro i hi _ j h1 h2; omega
  | succ d ih =>
    intro i hi h j h1 h2
    rw [tabsB, Bool.and_eq_true] at h
    by_cases e : j = i
    · rw [e]; exact h.1
    · exact ih (i + 1) (by omega) h.2 j (by omega) h2
theorem validB_at {s : List S49} (h : validB s = true) : s.length ≤ 16 ∧ ∀ j, j < s.length → tabB (s.take j) (rd_T49 s (j : Int)) = true := by
  unfold validB at h
  simp only [Bool.and_eq_true] at h
  exact ⟨of_decide_eq_true h.1, fun j hj => tabsB_at s s.length 0 (by omega) h.2.2 j (by omega) hj⟩
theorem kindsG_in (tc oc : List S78) (all key : List Int) : ∀ (d i : Nat), i + d = all.length → kindsG tc oc all key d i = true → ∀ j, i ≤ j → j < all.length → 0 ≤ rd all (j : Int) ∧ rd all (j : Int) < (tc.length : Int) := by
  intro d
  induction d with
  | zero => intro i hi _ j h1 h2; omega
  | succ d ih =>
    intro i hi h j h1 h2
    rw [kindsG] at h
    split at h
    · cases h
    split at h
    · cases h
    split at h
    · by_cases e : j = i
      · rw [e]; omega
      · exact ih (i + 1) (by omega) h j (by omega) h2
    · cases h
/-- What a valid scheme's references are good for, at data that fit. -/
theorem ref_ok {s : List S49} (hv : validB s = true) {d : List (List (List S64))} (hl : d.length = s.length) (hfit : ∀ n, n < s.length → ∀ row ∈ rd_L13 d (n : Int), row.length = (rd_T49 s (n : Int)).f1.length)
    (n : Nat) (hn : n < s.length) : ∀ r ∈ (rd_T49 s (n : Int)).f3, RefOk s d n r := by
  intro r hr
  obtain ⟨h16, hat⟩ := validB_at hv
  have hb := (tabB_facts (hat n hn)).2.2 r hr
  have hlen : (s.take n).length = n := by rw [List.length_take]; omega
  unfold refB at hb
  rw [hlen] at hb
  split at hb
  · cases hb
  split at hb
  · cases hb
  split at hb
  · cases hb
  rename_i q1 q2 q3
  rw [rd49_take (by omega) (by omega)] at hb
  split at hb
  · cases hb
  rename_i q4
  split at hb
  case isFalse => cases hb
  rename_i q5
  rw [Bool.and_eq_true] at hb
  have hj : r.f1.toNat < s.length := by omega
  have htab := tabB_facts (hat r.f1.toNat hj)
  rw [Int.toNat_of_nonneg (by omega)] at htab
  have hris := htab.2.1 _ (rdL6_mem (s := (rd_T49 s r.f1).f2) (i := r.f2) (by omega) (by omega))
  have hkin := kindsG_in _ _ _ _ r.f0.length 0 (by omega) hb.1
  refine ⟨by omega, by omega, by omega, by omega, by omega, by omega, ?_, ?_, ?_⟩
  · have h1 := risB_len hris (by omega)
    have := htab.1
    omega
  · intro row hrow c hc
    obtain ⟨j, hj, rfl⟩ := List.getElem_of_mem hc
    have := hkin j (by omega) hj
    rw [rd_at hj] at this
    rw [hfit n hn row hrow]
    exact this
  · intro y hy q hq
    have h1 := hfit r.f1.toNat hj y (by rw [Int.toNat_of_nonneg (by omega)]; exact hy)
    rw [Int.toNat_of_nonneg (by omega)] at h1
    rw [h1]
    exact risB_in hris q hq
theorem key_ok {s : List S49} (hv : validB s = true) (n : Nat) (hn : n < s.length) {rows : List (List S64)} (hfit : ∀ row ∈ rows, row.length = (rd_T49 s (n : Int)).f1.length) : ∀ key ∈ (rd_T49 s (n : Int)).f2, key.length ≤ 8 ∧ ∀ row ∈ rows, inR row key := by
  intro key hk
  have htab := tabB_facts ((validB_at hv).2 n hn)
  have hris := htab.2.1 key hk
  refine ⟨?_, fun row hrow q hq => ?_⟩
  · have h1 := risB_len hris (by omega)
    have := htab.1
    omega
  · rw [hfit row hrow]; exact risB_in hris q hq
theorem holds_is {s : List S49} (hv : validB s = true) {d : List (List (List S64))} (hl : d.length = s.length) (hfit : dataFitP s d = true) : ∀ (g i : Nat), i + g = s.length → holdsP s d i (d.drop i) = some (holdsB s d g i) ∧ refHoldsP s d g i = some (holdsB s d g i) := by
  have hrow : ∀ n, n < s.length → ∀ row ∈ rd_L13 d (n : Int), row.length = (rd_T49 s (n : Int)).f1.length := fun n hn => rowsFit_len (dataFit_at hfit n hn (by omega)).2
  intro g
  induction g with
  | zero => intro i hi; rw [List.drop_eq_nil_of_le (by omega)]; exact ⟨rfl, rfl⟩
  | succ g ih =>
    intro i hi
    obtain ⟨h1, h2⟩ := ih (i + 1) (by omega)
    obtain ⟨k1, k2⟩ := keys_is (rd_L13 d (i : Int)) _ (key_ok hv i (by omega) (hrow i (by omega)))
    obtain ⟨r1, r2⟩ := refs_is s d i _ (ref_ok hv hl hrow i (by omega))
    rw [List.drop_eq_getElem_cons (by omega : i < d.length), holdsP, refHoldsP, ← rdL13 (by omega : i < d.length), k1, k2, r1, r2, holdsB, Option.bind_some, Option.bind_some, Option.bind_some, Option.bind_some, h1, h2]
    cases ((rd_T49 s (i : Int)).f2.all fun k => KB k [] (rd_L13 d (i : Int))) <;> cases (rd_T49 s (i : Int)).f3.all (refHB s d i) <;> exact ⟨rfl, rfl⟩
theorem data_is (s : List S49) (hw : ∀ t ∈ s, wfT t) (d : List (List (List S64))) : Ev (fun k => dataP k s d) (dataB s d) := by
  obtain ⟨K, hK⟩ := valid_is s hw
  refine ⟨K, fun k hk => ?_⟩
  have h := hK k hk
  simp only at h
  show dataP k s d = _
  unfold dataP dataB
  rw [h, Option.bind_some]
  cases hv : validB s with
  | false => rfl
  | true =>
    rw [if_pos rfl]
    by_cases q : d.length = s.length
    · rw [if_pos q, decide_eq_true q]
      cases hf : dataFitP s d with
      | false => rfl
      | true =>
        have := (holds_is hv q hf s.length 0 (by omega)).1
        rw [List.drop_zero] at this
        rw [if_pos rfl, this]; rfl
    · rw [if_neg q, decide_eq_false q]; rfl

/-! #### where a table stands -/
theorem find_G (nm : ByteArray) : ∀ (l : List S49) (i : Nat), (0 ≤ findP nm i l → refFindG nm i l = (findP nm i l, true)) ∧ (¬ 0 ≤ findP nm i l → refFindG nm i l = (0, false))
  | [], i => ⟨fun h => by rw [findP] at h; omega, fun _ => rfl⟩
  | t :: l, i => by
    rw [findP, refFindG]
    by_cases q : t.f0 = nm
    · rw [if_pos ((ba_eq _ _).2 q), if_pos q]
      exact ⟨fun _ => rfl, fun h => absurd (by omega) h⟩
    · rw [if_neg (fun e => q ((ba_eq _ _).1 e)), if_neg q]
      exact find_G nm l (i + 1)
def findB (s : List S49) (nm : ByteArray) : Int × Bool := if validB s = true then refFindG nm 0 s else (0, false)
theorem refFind_is (s : List S49) (nm : ByteArray) : refFindP s nm = some (findB s nm) := by
  unfold refFindP findB
  rw [refValid_is, Option.bind_some]
  cases validB s <;> rfl
theorem find_is (s : List S49) (hw : ∀ t ∈ s, wfT t) (nm : ByteArray) : Ev (fun k => scheme_Find.f k s nm) (findB s nm) := by
  obtain ⟨K, hK⟩ := valid_is s hw
  refine ⟨K, fun k hk => ?_⟩
  have h := hK k hk
  simp only at h
  show scheme_Find.f k s nm = _
  unfold scheme_Find.f findB
  obtain ⟨h1, h2⟩ := find_G nm s 0
  by_cases q : 0 ≤ findP nm 0 s
  · rw [if_pos q, h, Option.bind_some, h1 q]
    cases validB s <;> rfl
  · rw [if_neg q, h2 q]
    cases validB s <;> rfl
end Go.Proofs.YthgfdnffnbclpaaDoor.PAll
