import Derived.Test.YthgfdnffnbclpaaGreatDoorXI14
import Derived.Test.YthgfdnffnbclpaaGreatDoorXI07
set_option linter.unusedVariables false
set_option linter.unusedSimpArgs false
namespace Go.Proofs.YthgfdnffnbclpaaGreatDoor.PAll
open Go.RowKit Go.Proofs.YthgfdnffnbclpaaGreatDoorW.PrintWords Go.Proofs.YthgfdnffnbclpaaGreatDoorW.PrintLast Go.Proofs.YthgfdnffnbclpaaGreatDoorW.PrintMore

abbrev Rows := List (List S64)
abbrev Data := List Rows
def wfRows (l : Rows) : Prop := ∀ row ∈ l, ∀ x ∈ row, wfV x
def wfData (d : Data) : Prop := ∀ rows ∈ d, wfRows rows

section
variable {P : Program} {ops : Array Oper} {Q : Exit → Act → World → Prop}
theorem step_store_run {oi : Oper} {a : Act} {W W' : World} {K : Act → World → Prop} (hw : Region.wanted oi (yielded ops a.tmps) = true) (t : TypeId) (p x : Operand) (ho : oi.op = .store t p x) (hN : oi.dst = none) {pv u : Value} (hp : a.eval p = pv) (hx : a.eval x = u)
    (hrun : (Instr.storeAt t pv u).run P W = .ok () W') (h : K a W') : if Region.wanted oi (yielded ops a.tmps) = true then Oper.wp P oi a W K Q else K (a.put none undef) W := by
  rw [if_pos hw]
  unfold Oper.wp
  simp only [execOp, ho, hp, hx, hrun, Result.andThen, Sem.run_bind]
  show K (a.put oi.dst undef) W'
  rw [hN]
  exact h
end

/-- The first error of some rows. -/
def errsP (t : S49) : Rows → Int
  | [] => 0
  | row :: r => if fitsRowP t.f1 row = 0 then errsP t r else fitsRowP t.f1 row
def insertP (k : Nat) (s : List S49) (d : Data) (nm : ByteArray) (rows : Rows) : Option (Data × Int) :=
  (dataP k s d).bind fun v =>
    if v = true then
      if findP nm 0 s < 0 then some ([], 71)
      else if errsP (rd_T49 s (findP nm 0 s)) rows = 0 then
        if ((rd_L13 d (findP nm 0 s)).length : Int) + (rows.length : Int) > 1000 then some ([], 72)
        else
          (keysP (rd_L13 d (findP nm 0 s) ++ rows) (rd_T49 s (findP nm 0 s)).f2).bind fun a =>
            if a = true then
              (refsP s (d.set (findP nm 0 s).toNat (rd_L13 d (findP nm 0 s) ++ rows)) (findP nm 0 s) (rd_T49 s (findP nm 0 s)).f3).bind fun b =>
                if b = true then some (d.set (findP nm 0 s).toNat (rd_L13 d (findP nm 0 s) ++ rows), 0) else some ([], 77)
            else some ([], 76)
      else some ([], errsP (rd_T49 s (findP nm 0 s)) rows)
    else some ([], 1)

theorem findP_range (nm : ByteArray) : ∀ (s : List S49) (i : Nat), findP nm i s < 0 ∨ ((i : Int) ≤ findP nm i s ∧ findP nm i s < (i + s.length : Nat))
  | [], i => by simp [findP]
  | t :: s, i => by
    unfold findP
    split
    · right; simp; omega
    · rcases findP_range nm s (i + 1) with h | h
      · exact .inl h
      · right; simp at h ⊢; omega
theorem dataP_len {k : Nat} {s : List S49} {d : Data} (h : dataP k s d = some true) : d.length = s.length := by
  unfold dataP at h
  obtain ⟨v, _, h⟩ := Option.bind_eq_some_iff.mp h
  split at h
  · split at h
    · assumption
    · cases h
  · cases h
theorem C_nil {α : Type} (d : Kd α) (w : World) : Kd.C d w none 0 [] := (Kd.R_reads' (Kd.R_nil d 0 w 0 (fun _ => True))).2.2

set_option maxHeartbeats 4000000 in
set_option maxRecDepth 100000 in
theorem insertS_walk (k : Nat) (A0 : Option Addr) (c0 : Nat) (s : List S49) (A1 : Option Addr) (c1 : Nat) (d : Data) (nm : ByteArray) (A3 : Option Addr) (c3 : Nat) (rows : Rows) (r1 : Data) (r2 : Int) (w : World)
    (hS : Kd.C k49 w A0 s.length s) (hc0 : s.length ≤ c0) (hD : Kd.C (Kd.slice 89 (Kd.slice 87 k64)) w A1 d.length d) (hc1 : d.length ≤ c1) (hR : Kd.C (Kd.slice 87 k64) w A3 rows.length rows) (hc3 : rows.length ≤ c3)
    (hwd : wfData d) (hwr : wfRows rows) (hsd : dataP k s d = some true → smallData d) (hrl : rows.length ≤ 6000000000000) (hsr : dataP k s d = some true → 0 ≤ findP nm 0 s → errsP (rd_T49 s (findP nm 0 s)) rows = 0 → rows.length ≤ 1000 → smallRows rows) (hL : LaidL w) (h : insertP k s d nm rows = some (r1, r2)) :
    Calls Tryz.prog 22 #[.slice A0 s.length c0, .slice A1 d.length c1, .string nm, .slice A3 rows.length c3] w fun e w' => ∃ v0 : Value, e = .returned (.tuple #[v0, .int .i64 r2]) ∧ Kd.S (Kd.slice 89 (Kd.slice 87 k64)) 41 w' w.heap.size (fun _ => True) v0 r1 ∧ Below w.heap.size w w' := by
  have HS := Aside0.mk hS
  have HD := Aside0.mk hD
  have HR := Aside0.mk hR
  have HWD := Aside0.mk hwd
  have HWR := Aside0.mk hwr
  have HSD := Aside0.mk hsd
  have HSR := Aside0.mk hsr
  have HRL := Aside0.mk hrl
  have HB0 := Aside0.mk (Below.refl w.heap.size w)
  have HNIL : Aside0 (∀ W, Kd.C (Kd.slice 89 (Kd.slice 87 k64)) W none 0 ([] : Data)) := ⟨fun W => C_nil _ W⟩
  unfold insertP at h
  obtain ⟨v, hv, h⟩ := Option.bind_eq_some_iff.mp h
  have HV := Aside0.mk (validData_walk k A0 c0 s A1 c1 d v w hS hc0 hD hc1 hwd hL hv)
  have HF : Aside0 (∀ W, Below w.heap.size w W → Calls Tryz.prog 33 #[.slice A0 s.length c0, .string nm] W fun e w' => e = .returned (.int .i64 (findP nm 0 s)) ∧ Below W.heap.size W w') := ⟨fun W hW => scheme_find.calls A0 c0 s nm _ W (Kd.C_below hS hW) hc0 rfl⟩
  have HH := Aside0.mk h
  have HVD := Aside0.mk hv
  clear hS hD hR hwd hwr hsd hsr hrl hL h hv
  go_enter Tryz.func22, Tryz.ntmps22
  cases v with
  | false =>
    have h := HH.out
    rw [if_neg (by decide)] at h
    cases h
    go_wp2_with (go_at_call 29; refine HV.out.mono ?_; rintro e w1 ⟨rfl, hb1⟩)
    go_ret2
    exact ⟨_, rfl, Kd.S_nil _ _ _ _ _, hb1⟩
  | true =>
    have h := HH.out
    rw [if_pos rfl] at h
    have HLEN := Aside0.mk (dataP_len HVD.out)
    have HSD2 := Aside0.mk (HSD.out HVD.out)
    have hrange := findP_range nm s 0
    generalize findP nm 0 s = n at *
    by_cases q : n < 0
    · rw [if_pos q] at h
      cases h
      have d1 : decide (n < 0) = true := decide_eq_true q
      clear q hrange HH
      go_wp2_with (first | (go_at_call 29; refine HV.out.mono ?_; rintro e w1 ⟨rfl, hb1⟩) | (go_at_call 33; refine (HF.out _ hb1).mono ?_; rintro e w2 ⟨rfl, hb2⟩))
      go_ret2
      exact ⟨_, rfl, Kd.S_nil _ _ _ _ _, below_step hb1 hb2⟩
    rw [if_neg q] at h
    have d1 : decide (n < 0) = false := decide_eq_false q
    have hn0 : 0 ≤ n := by omega
    have hns : n < (s.length : Int) := by omega
    have hnd : n < (d.length : Int) := by have := HLEN.out; omega
    clear q hrange HH
    have HP := Aside0.mk h
    clear h
    obtain ⟨at_, A1_, c1_, A2, c2, A3_, c3_, A4, c4, hAt, y0, y1, y2, y3, y4, g1, h1, g2, h2, g3, h3, g4, h4⟩ := at_T49 HS.out n hn0 hns
    cases hAt
    obtain ⟨ad, Ar, cr, hAd, hx, hcr, hCr⟩ := at_L13 HD.out n hn0 hnd
    cases hAd
    generalize ht : rd_T49 s n = t at *
    generalize hold : rd_L13 d n = old at *
    have HFR : Aside0 (∀ (A : Option Addr) (c : Nat) (row : List S64) (W : World), Below w.heap.size w W → Kd.C k64 W A row.length row → row.length ≤ c → Calls Tryz.prog 69 #[.agg #[.string t.f0, .slice A1_ t.f1.length c1_, .slice A2 t.f2.length c2, .slice A3_ t.f3.length c3_, .slice A4 t.f4.length c4], .slice A row.length c] W fun e w' => e = .returned (.int .i64 (fitsRowP t.f1 row)) ∧ Below W.heap.size W w') := ⟨fun A c row W hW hC hc => fitsRow_walk t.f0 A1_ c1_ t.f1 A2 _ c2 A3_ _ c3_ A4 _ c4 A c row W (Kd.C_below h1 hW) g1 hC hc⟩
    have HY : Aside0 (∀ W, Below w.heap.size w W → W.cell? (at_.add (n.toNat * 5)) = some (.string t.f0) ∧ W.cell? ⟨(at_.add (n.toNat * 5)).block, (at_.add (n.toNat * 5)).off + 1, none⟩ = some (.slice A1_ t.f1.length c1_) ∧ W.cell? ⟨(at_.add (n.toNat * 5)).block, (at_.add (n.toNat * 5)).off + 2, none⟩ = some (.slice A2 t.f2.length c2) ∧ W.cell? ⟨(at_.add (n.toNat * 5)).block, (at_.add (n.toNat * 5)).off + 3, none⟩ = some (.slice A3_ t.f3.length c3_) ∧ W.cell? ⟨(at_.add (n.toNat * 5)).block, (at_.add (n.toNat * 5)).off + 4, none⟩ = some (.slice A4 t.f4.length c4)) := ⟨fun W hB =>
      ⟨(hB.cell (World.block_lt_of_cell? w _ y0)).trans y0, (hB.cell (World.block_lt_of_cell? w _ y1)).trans y1, (hB.cell (World.block_lt_of_cell? w _ y2)).trans y2, (hB.cell (World.block_lt_of_cell? w _ y3)).trans y3, (hB.cell (World.block_lt_of_cell? w _ y4)).trans y4⟩⟩
    have HX : Aside0 (∀ W, Below w.heap.size w W → W.cell? (ad.add n.toNat) = some (.slice Ar old.length cr)) := ⟨fun W hB => (hB.cell (World.block_lt_of_cell? w _ hx)).trans hx⟩
    have H2 := Aside0.mk h2
    have HG2 := Aside0.mk g2
    have HOL : Aside0 (old.length ≤ 2000000) := ⟨by rw [← hold]; unfold rd_L13; have hl : n.toNat < d.length := by omega
                                                    rw [List.getD_eq_getElem?_getD, List.getElem?_eq_getElem hl]; exact (HSD2.out.2 _ (List.getElem_mem hl)).1⟩
    have HT := Aside0.mk ht
    have HOLD := Aside0.mk hold
    clear y0 y1 y2 y3 y4 h1 g1 h2 g2 h3 g3 h4 g4 hx hcr hCr ht hold
    go_wp2_with (first | (go_at_call 29; refine HV.out.mono ?_; rintro e w1 ⟨rfl, hb1⟩) | (go_at_call 33; refine (HF.out _ hb1).mono ?_; rintro e w2 ⟨rfl, hb2⟩))
    have HW0 := Aside0.mk (below_step hb1 hb2)
    clear hb1 hb2 HV HF HB0 d1
    go_loopg [26] rows.length (fun gj v26 wx => ∃ (j : Nat), j + gj = rows.length ∧ v26 = .int .i64 j ∧ Aside0 (Below w.heap.size w wx) ∧ Aside0 (errsP t rows = errsP t (rows.drop j)))
    case atStart => exact ⟨0, by omega, rfl, HW0, ⟨by simp⟩⟩
    case round =>
      clear HW0
      obtain ⟨j, hj, rfl, HW, HE⟩ := hrel
      cases gk with
      | succ gk =>
        have hjlt : j < rows.length := by omega
        have hjj : (j : Int) < (rows.length : Int) := by omega
        have hj0 : (0 : Int) ≤ (j : Int) := by omega
        have hdrj : rows.drop j = rows[j] :: rows.drop (j + 1) := List.drop_eq_getElem_cons hjlt
        have hrdj : rd_L12 rows (j : Int) = rows[j] := by unfold rd_L12; simp [List.getD, hjlt]
        obtain ⟨adr, Aw, cw, hAw, hxw, hcw, hCw⟩ := at_L12 HR.out (j : Int) hj0 hjj
        cases hAw
        rw [hrdj] at hxw hcw hCw
        rw [Int.toNat_natCast] at hxw
        replace hxw := (HW.out.cell (World.block_lt_of_cell? w _ hxw)).trans hxw
        have he := HE.out
        rw [hdrj, errsP] at he
        generalize rows[j] = row at *
        obtain ⟨y0, y1, y2, y3, y4⟩ := HY.out wr HW.out
        have HN := Aside0.mk (HFR.out Aw cw row wr HW.out (Kd.C_below hCw HW.out) hcw)
        by_cases q : fitsRowP t.f1 row = 0
        · rw [if_pos q] at he
          have HE2 := Aside0.mk he
          have d1 : (fitsRowP t.f1 row == 0) = true := beq_iff_eq.mpr q
          have d2 : (fitsRowP t.f1 row != 0) = false := by rw [bne, d1]; rfl
          clear he q HE hCw hrdj hdrj HFR HY
          go_wp2_with (go_at_call 69; refine HN.out.mono ?_; rintro e w1 ⟨rfl, hb1⟩)
          go_roundg gk
          case measure => omega
          case rel => exact ⟨j + 1, by omega, by first | rfl | (simp; done) | (have := HR.out.2.1; simp; unfold wrap64; omega), ⟨below_step HW.out hb1⟩, HE2⟩
        · rw [if_neg q] at he
          have hp := HP.out
          rw [if_neg (by rw [he]; exact q), he] at hp
          cases hp
          have d1 : (fitsRowP t.f1 row == 0) = false := beq_eq_false_iff_ne.mpr q
          have d2 : (fitsRowP t.f1 row != 0) = true := by rw [bne, d1]; rfl
          clear q HE hCw hrdj hdrj HFR HY he HP
          go_wp2_with (go_at_call 69; refine HN.out.mono ?_; rintro e w1 ⟨rfl, hb1⟩)
          go_ret2
          exact ⟨_, by first | rfl | (simp; done), Kd.S_nil _ _ _ _ _, below_step HW.out hb1⟩
      | zero =>
        have e : rows.drop j = [] := List.drop_eq_nil_of_le (by omega)
        have he := HE.out
        rw [e, errsP] at he
        have hp := HP.out
        rw [if_pos he] at hp
        have hjj : ¬ (j : Int) < (rows.length : Int) := by omega
        have HE0 := Aside0.mk he
        clear he HE e HP
        have x0 := HX.out wr HW.out
        by_cases q : (old.length : Int) + (rows.length : Int) > 1000
        · rw [if_pos q] at hp
          cases hp
          have hwrap : wrap64 ((old.length : Int) + (rows.length : Int)) = (old.length : Int) + (rows.length : Int) := by
            have := HRL.out
            have := HOL.out
            unfold wrap64; omega
          have d1 : decide (1000 < (old.length : Int) + (rows.length : Int)) = true := decide_eq_true q
          clear q
          go_wp2
          go_ret2
          exact ⟨_, rfl, Kd.S_nil _ _ _ _ _, HW.out⟩
        rw [if_neg q] at hp
        have hwrap : wrap64 ((old.length : Int) + (rows.length : Int)) = (old.length : Int) + (rows.length : Int) := by unfold wrap64; omega
        have d1 : decide (1000 < (old.length : Int) + (rows.length : Int)) = false := decide_eq_false q
        have HP := Aside0.mk hp
        have HQ := Aside0.mk q
        clear q hp
        have HCD := Aside0.mk (copiedData_walk (some ad) c1 d wr (Kd.C_below HD.out HW.out) hc1 HSD2.out)
        have HDP : Aside0 (0 < d.length) := ⟨by omega⟩
        go_wp2_with (go_at_call 37; refine HCD.out.mono ?_; rintro e w1 ⟨v, rfl, ho, hb1⟩; obtain ⟨g, cap, ev, hg1, hg2, gcells, hgc⟩ := Kd.S_form ho HDP.out; subst ev)
        clear hwrap d1 x0 hjj
        have HB1 := Aside0.mk (below_step HW.out hb1)
        have HGW : Aside0 (w.heap.size ≤ g) := ⟨by have := HW.out.size; omega⟩
        obtain ⟨oki, cc, hcl, hM, hcc, hoki, hH⟩ := Kd.S_lend ho ([] : Rows) n hn0 hnd
        obtain ⟨vn, rfl, hRn⟩ := hM
        have hgetD : List.getD d n.toNat [] = old := HOLD.out
        rw [hgetD] at hRn
        obtain ⟨An, cn, rfl⟩ := Kd.R_slice hRn
        have hcell := hcc 0 _ rfl
        have hcell2 : w1.cell? ⟨g, n.toNat, none⟩ = some (.slice An old.length cn) := by simpa [Kd.slice] using hcell
        have HH0 := Aside0.mk (Kd.H_widen (Kd.H_drew hH))
        have HRN := Aside0.mk (Kd.R_drew hRn)
        have HOK := Aside0.mk hoki
        have hgne : some g ≠ (Value.slice An old.length cn).ownBlock := fun he => (hoki g (hRn.1 g he.symm)).2 rfl
        have HGNE := Aside0.mk hgne
        have HG2 := Aside0.mk hg2
        have HBD := Aside0.mk (below_drew1 HB1.out)
        have HWR1 := Aside0.mk (below_drew1 hb1)
        have HGC : Aside0 (w1.drew.heap[g]? = some (.cells gcells 41 (0, 0))) := ⟨hgc⟩
        have HGN : Aside0 (g < w1.drew.heap.size) := ⟨hg2⟩
        have hd : w1.drew.cell? ⟨g, n.toNat, none⟩ = some (.slice An old.length cn) := by exact hcell2
        clear hcell hcell2 hcc hH hRn hoki hgne hb1 ho hgetD hg2 HCD HDP hgc HG2
        refine start_ (n := 11) (S := fun W => W.cell? ⟨g, n.toNat, none⟩ = some (.slice An old.length cn)) (ds := [10]) #[false, false, false, false, false, false, false, false, false, false, false] (by kernel_rfl) rfl rfl hd (fun hHeld => ?_)
        clear hd
        generalize w1.drew = W1 at *
        have HMC := Aside0.mk (copyRows_walk A3 c3 rows W1 (Kd.C_below HR.out HBD.out) hc3 (HSR.out HVD.out hn0 HE0.out (by have := HQ.out; omega)))
        refine pure_ (i := 0) (N := some 51) (v := ?_) (a' := ?_) #[true, false, false, false, false, false, false, false, false, false, false] rfl rfl (by kernel_rfl) (fun _ _ _ h => h) (Or.inl ⟨by rfl, ?_⟩) ?_ ?_
        rotate_left
        · intro w'; go_simp; with_reducible rfl
        rotate_left
        · simp only [Act.put, List.setIfInBounds_toArray, List.set_cons_zero, List.set_cons_succ, i64_w, i32_w]; rfl
        refine pure_ (i := 1) (N := some 52) (v := ?_) (a' := ?_) #[true, true, false, false, false, false, false, false, false, false, false] rfl rfl (by kernel_rfl) (fun _ _ _ h => h) (Or.inl ⟨by rfl, ?_⟩) ?_ ?_
        rotate_left
        · intro w'; go_simp; with_reducible rfl
        rotate_left
        · simp only [Act.put, List.setIfInBounds_toArray, List.set_cons_zero, List.set_cons_succ, i64_w, i32_w]; rfl
        refine pure_ (i := 2) (N := some 53) (v := ?_) (a' := ?_) #[true, true, true, false, false, false, false, false, false, false, false] rfl rfl (by kernel_rfl) (fun _ _ _ h => h) (Or.inl ⟨by rfl, ?_⟩) ?_ ?_
        rotate_left
        · intro w'; go_simp; with_reducible rfl
        rotate_left
        · simp only [Act.put, List.setIfInBounds_toArray, List.set_cons_zero, List.set_cons_succ, i64_w, i32_w]; rfl
        refine pure_ (i := 3) (N := some 54) (v := ?_) (a' := ?_) #[true, true, true, true, false, false, false, false, false, false, false] rfl rfl (by kernel_rfl) (fun _ _ _ h => h) (Or.inl ⟨by rfl, ?_⟩) ?_ ?_
        rotate_left
        · intro w'; go_simp; with_reducible rfl
        rotate_left
        · simp only [Act.put, List.setIfInBounds_toArray, List.set_cons_zero, List.set_cons_succ, i64_w, i32_w]; rfl
        refine pure_ (i := 4) (N := some 55) (v := ?_) (a' := ?_) #[true, true, true, true, true, false, false, false, false, false, false] rfl rfl (by kernel_rfl) (fun _ _ _ h => h) (Or.inl ⟨by rfl, ?_⟩) ?_ ?_
        rotate_left
        · intro w'; go_simp; with_reducible rfl
        rotate_left
        · simp only [Act.put, List.setIfInBounds_toArray, List.set_cons_zero, List.set_cons_succ, i64_w, i32_w]; rfl
        refine take_ (i := 5) (N := some 56) (v := ?_) (a' := ?_) #[true, true, true, true, true, true, false, false, false, false, false] rfl rfl (by kernel_rfl) (fun _ _ _ h => h) (Or.inl ⟨by rfl, ?_⟩) hHeld ?_ ?_
        rotate_left
        · rintro w' s0; go_simp; with_reducible rfl
        rotate_left
        · simp only [Act.put, List.setIfInBounds_toArray, List.set_cons_zero, List.set_cons_succ, i64_w, i32_w]; rfl
        refine pure_ (i := 6) (N := some 57) (v := ?_) (a' := ?_) #[true, true, true, true, true, true, true, false, false, false, false] rfl rfl (by kernel_rfl) (fun _ _ _ h => h) (Or.inl ⟨by rfl, ?_⟩) ?_ ?_
        rotate_left
        · intro w'; go_simp; with_reducible rfl
        rotate_left
        · simp only [Act.put, List.setIfInBounds_toArray, List.set_cons_zero, List.set_cons_succ, i64_w, i32_w]; rfl
        refine one_ (i := 7) (N := some 58) #[true, true, true, true, true, true, true, true, false, false, false] rfl rfl (by kernel_rfl) (by decide) (fun K hK => ?_)
        refine goes_ Tryz.func70 (by kernel_rfl) rfl #[.slice A3 rows.length c3, .func (.func 71) #[] #[]] (by rfl) rfl rfl (by (try simp only [List.map_toArray, List.map_cons, List.map_nil]); first | done | rfl) ?_
        refine HMC.out.mono ?_
        rintro e W2 ⟨vm, rfl, hm, hb2⟩
        obtain ⟨Am, cm, em⟩ := Kd.S_slice hm
        subst em
        refine ⟨_, rfl, ?_⟩
        have hc2 := (hb2.cell (World.block_lt_of_cell? W1 _ hHeld)).trans hHeld
        refine hK.out _ _ hc2 (fun hHeld2 => ?_)
        clear hK K
        refine norm_ (a' := ?_) ?_ ?_
        rotate_left
        · show Act.put _ (some 58) _ = _; simp only [Act.put, List.setIfInBounds_toArray, List.set_cons_zero, List.set_cons_succ, i64_w, i32_w]; rfl
        obtain ⟨Am', cm', em, _, hrd⟩ := OwnRow.reads (Kd.R_bound (Kd.S_R hm)).2
        injection em with em1 em2 em3
        subst em1
        have hrd2 : ReadsRow ((Kd.slice 87 k64).M W2 wr.heap.size (fun k => W1.heap.size ≤ k)) (Kd.slice 87 k64).sz W2 Am rows.length rows := hrd.imp_ (Below.refl _ _) (fun _ _ hp => (Kd.slice 87 k64).M_lower HWR1.out.size ((Kd.slice 87 k64).M_mono (fun k hk => hk.1.2.1) hp))
        have HRD2 := Aside0.mk hrd2
        have HRN2 := Aside0.mk (Kd.R_mono (Kd.R_below HRN.out hb2) (fun k hk => Or.inl hk) : (Kd.slice 87 k64).R 89 W2 wr.heap.size (fun k => oki k ∨ W1.heap.size ≤ k) (.slice An old.length cn) old)
        have HB2 := Aside0.mk hb2
        have hl24 : (old.length + rows.length) * 24 ≤ 140737488355328 := by have := HQ.out; omega
        clear hrd hrd2 hm hb2
        refine one_ (i := 8) (N := some 59) #[true, true, true, true, true, true, true, true, true, false, false] rfl rfl (by kernel_rfl) (by decide) (fun K hK => ?_)
        refine Kd.R_append_rows_step (Kd.slice 87 k64) (w0 := wr) wr.heap.size (by rfl) (.tmp 56) (.tmp 58) 41 89 (.slice none 0 0) 24 rfl Tryz.underlying41 info89 rfl (by decide) (by omega) (.slice An old.length cn) old rows Am rows.length cm (fun k => oki k ∨ W1.heap.size ≤ k) (fun k => W1.heap.size ≤ k) rfl rfl HRN2.out HRD2.out (fun _ _ h => h) ?hokp ?hfresh (below_step HWR1.out HB2.out) (Nat.le_trans HWR1.out.size HB2.out.size) hl24 ?_
        case hokp => exact fun k hk => ⟨Or.inr hk, fun he => by have := Kd.R_lt HRN.out k he.symm; omega⟩
        case hfresh => exact fun k hk => Or.inr (Nat.le_trans HB2.out.size hk)
        intro v1 W3 hv1 hb3 hg3 _
        obtain ⟨A5, c5, e5⟩ := Kd.R_slice hv1
        subst e5
        have hgc3 : W3.heap[g]? = some (.cells gcells 41 (0, 0)) := (hg3.block g (Nat.lt_of_lt_of_le HGN.out HB2.out.size) HGNE.out).trans ((HB2.out.block g HGN.out).trans HGC.out)
        have hc3 : W3.cell? ⟨g, n.toNat, none⟩ = some (.slice An old.length cn) := (blk_cell hgc3 n.toNat).trans ((blk_cell HGC.out n.toNat).symm.trans hHeld)
        have hfit : n.toNat + 1 ≤ gcells.size := by
          have := (blk_cell hgc3 n.toNat).symm.trans hc3
          have := (Array.getElem?_eq_some_iff.1 this).1
          omega
        refine hK.out _ _ hc3 (fun hHeld3 => ?_)
        clear hK K
        refine norm_ (a' := ?_) ?_ ?_
        rotate_left
        · show Act.put _ (some 59) _ = _; simp only [Act.put, List.setIfInBounds_toArray, List.set_cons_zero, List.set_cons_succ, i64_w, i32_w]; rfl
        refine pure_ (i := 9) (N := some 60) (v := ?_) (a' := ?_) #[true, true, true, true, true, true, true, true, true, true, false] rfl rfl (by kernel_rfl) (fun _ _ _ h => h) (Or.inl ⟨by rfl, ?_⟩) ?_ ?_
        rotate_left
        · intro w'; go_simp; with_reducible rfl
        rotate_left
        · simp only [Act.put, List.setIfInBounds_toArray, List.set_cons_zero, List.set_cons_succ, i64_w, i32_w]; rfl
        refine last_ (i := 10) (N := none) #[true, true, true, true, true, true, true, true, true, true, true] rfl rfl (by kernel_rfl) (by decide) (fun K hK => ?_)
        refine step_store_run (by rfl) 41 (.tmp 60) (.tmp 59) rfl rfl rfl rfl (run_store_run 41 (.slice A5 (old ++ rows).length c5) [.slice A5 (old ++ rows).length c5] hgc3 rfl (by kernel_rfl) (by simpa using hfit) (by simp [Value.oneCell'])) ?_
        refine hK.out _ _ ?_
        clear hK K
        refine done_ (by kernel_rfl) ?_
        have hHW3 := Kd.H_grown (Kd.H_below HH0.out HB2.out) hg3 (fun k hk => Or.inl (HRN.out.1 k hk))
        have hS4 := (Kd.S_seg0 hHW3 hn0 hnd (seg := [.slice A5 (old ++ rows).length c5]) (j := 0) (Nat.le_refl _) (x' := old ++ rows) (okp := fun k => oki k ∨ W1.heap.size ≤ k) (Kd.M_row hv1) (fun k hk => hk.elim Or.inl (fun h => Or.inr ⟨trivial, h⟩))).1
        have hoff : n.toNat * (Kd.slice 89 (Kd.slice 87 k64)).sz + 0 = n.toNat := by simp [Kd.slice]
        rw [hoff] at hS4
        have HW4 : Aside0 (Below w.heap.size w (W3.setCells g n.toNat [.slice A5 (old ++ rows).length c5])) := ⟨Go.below_setCells HGW.out _ _ _ (below_step HW.out hb3)⟩
        generalize (W3.setCells g n.toNat [.slice A5 (old ++ rows).length c5]) = W4 at *
        have HS4 := Aside0.mk hS4; have HO4 := Aside0.mk (Kd.S_reads' hS4)
        have HSET : Aside0 (rd_L13 (d.set n.toNat (old ++ rows)) n = old ++ rows) := ⟨by
          unfold rd_L13
          rw [List.getD_eq_getElem?_getD, List.getElem?_set_self (by omega)]; rfl⟩
        clear hS4 hoff hHW3 hHeld3 hc3 hfit hgc3 hg3 hb3 hv1 hl24 HRN2 HRD2 hHeld2 hHeld hc2 HMC HH0 HRN HGC HWR1 HB1 HB2
        have hwrows : ∀ row ∈ old ++ rows, ∀ x ∈ row, wfV x := by
          intro row hr
          rcases List.mem_append.1 hr with hr | hr
          · have hl : n.toNat < d.length := by omega
            have : old ∈ d := by rw [← HOLD.out]; unfold rd_L13; rw [List.getD_eq_getElem?_getD, List.getElem?_eq_getElem hl]; exact List.getElem_mem hl
            exact HWD.out _ this row hr
          · exact HWR.out row hr
        generalize hnw : old ++ rows = nw at *
        have HNW := Aside0.mk hnw
        have HNWF := Aside0.mk hwrows
        clear hnw
        obtain ⟨a, ha, hp⟩ := Option.bind_eq_some_iff.mp HP.out
        obtain ⟨g_, A6, c6, hg_, hx6, hc6, hC6⟩ := at_L13 HO4.out.2.2 n hn0 (by rw [List.length_set]; omega)
        cases hg_
        rw [HSET.out] at hx6 hc6 hC6
        have hx6' : W4.cell? ⟨g, n.toNat, none⟩ = some (.slice A6 nw.length c6) := by rwa [add_plain] at hx6
        have HKW : Aside0 (∀ W, Below W4.heap.size W4 W → Calls Tryz.prog 72 #[.agg #[.string t.f0, .slice A1_ t.f1.length c1_, .slice A2 t.f2.length c2, .slice A3_ t.f3.length c3_, .slice A4 t.f4.length c4], .slice A6 nw.length c6] W fun e w' => e = .returned (.bool a) ∧ Below W.heap.size W w') := ⟨fun W hW => keysHold_walk t.f0 A1_ c1_ _ A2 c2 t.f2 A3_ c3_ _ A4 c4 _ A6 c6 (nw) a W (Kd.C_below H2.out (below_step HW4.out hW)) HG2.out (Kd.C_below hC6 hW) hc6 hwrows ha⟩
        have KB : Aside0 (∀ W, Below W4.heap.size W4 W → W.cell? ⟨g, n.toNat, none⟩ = some (.slice A6 nw.length c6) ∧ (W.cell? (at_.add (n.toNat * 5)) = some (.string t.f0) ∧ W.cell? ⟨(at_.add (n.toNat * 5)).block, (at_.add (n.toNat * 5)).off + 1, none⟩ = some (.slice A1_ t.f1.length c1_) ∧ W.cell? ⟨(at_.add (n.toNat * 5)).block, (at_.add (n.toNat * 5)).off + 2, none⟩ = some (.slice A2 t.f2.length c2) ∧ W.cell? ⟨(at_.add (n.toNat * 5)).block, (at_.add (n.toNat * 5)).off + 3, none⟩ = some (.slice A3_ t.f3.length c3_) ∧ W.cell? ⟨(at_.add (n.toNat * 5)).block, (at_.add (n.toNat * 5)).off + 4, none⟩ = some (.slice A4 t.f4.length c4)) ∧ Below W4.heap.size W4 W) := ⟨fun W hW => ⟨(hW.cell (World.block_lt_of_cell? W4 _ hx6')).trans hx6', HY.out W (below_step HW4.out hW), hW⟩⟩
        have HP2 := Aside0.mk hp
        clear HP hp ha hwrows hx6 hx6' hC6 hc6
        go_wp2
        have hd := KB.out _ (below_drew1 (Below.refl _ _))
        refine start_ (n := 11) (S := fun W => W.cell? ⟨g, n.toNat, none⟩ = some (.slice A6 nw.length c6) ∧ (W.cell? (at_.add (n.toNat * 5)) = some (.string t.f0) ∧ W.cell? ⟨(at_.add (n.toNat * 5)).block, (at_.add (n.toNat * 5)).off + 1, none⟩ = some (.slice A1_ t.f1.length c1_) ∧ W.cell? ⟨(at_.add (n.toNat * 5)).block, (at_.add (n.toNat * 5)).off + 2, none⟩ = some (.slice A2 t.f2.length c2) ∧ W.cell? ⟨(at_.add (n.toNat * 5)).block, (at_.add (n.toNat * 5)).off + 3, none⟩ = some (.slice A3_ t.f3.length c3_) ∧ W.cell? ⟨(at_.add (n.toNat * 5)).block, (at_.add (n.toNat * 5)).off + 4, none⟩ = some (.slice A4 t.f4.length c4)) ∧ Below W4.heap.size W4 W) (ds := []) #[false, false, false, false, false, false, false, false, false, false, false] (by kernel_rfl) rfl rfl hd (fun hHeld => ?_)
        clear hd
        refine pure_ (i := 0) (N := some 62) (v := ?_) (a' := ?_) #[true, false, false, false, false, false, false, false, false, false, false] rfl rfl (by kernel_rfl) (fun _ _ _ h => h) (Or.inl ⟨by rfl, ?_⟩) ?_ ?_
        rotate_left
        · intro w'; go_simp; with_reducible rfl
        rotate_left
        · simp only [Act.put, List.setIfInBounds_toArray, List.set_cons_zero, List.set_cons_succ, i64_w, i32_w]; rfl
        refine pure_ (i := 1) (N := some 63) (v := ?_) (a' := ?_) #[true, true, false, false, false, false, false, false, false, false, false] rfl rfl (by kernel_rfl) (fun _ _ _ h => h) (Or.inl ⟨by rfl, ?_⟩) ?_ ?_
        rotate_left
        · intro w'; go_simp; with_reducible rfl
        rotate_left
        · simp only [Act.put, List.setIfInBounds_toArray, List.set_cons_zero, List.set_cons_succ, i64_w, i32_w]; rfl
        refine pure_ (i := 2) (N := some 64) (v := ?_) (a' := ?_) #[true, true, true, false, false, false, false, false, false, false, false] rfl rfl (by kernel_rfl) (fun _ _ _ h => h) (Or.inl ⟨by rfl, ?_⟩) ?_ ?_
        rotate_left
        · intro w'; go_simp; with_reducible rfl
        rotate_left
        · simp only [Act.put, List.setIfInBounds_toArray, List.set_cons_zero, List.set_cons_succ, i64_w, i32_w]; rfl
        refine take_ (i := 3) (N := some 65) (v := ?_) (a' := ?_) #[true, true, true, true, false, false, false, false, false, false, false] rfl rfl (by kernel_rfl) (fun _ _ _ h => h) (Or.inl ⟨by rfl, ?_⟩) hHeld ?_ ?_
        rotate_left
        · rintro w' ⟨_, ⟨s0, s1, s2, s3, s4⟩, _⟩; go_simp; with_reducible rfl
        rotate_left
        · simp only [Act.put, List.setIfInBounds_toArray, List.set_cons_zero, List.set_cons_succ, i64_w, i32_w]; rfl
        refine pure_ (i := 4) (N := some 66) (v := ?_) (a' := ?_) #[true, true, true, true, true, false, false, false, false, false, false] rfl rfl (by kernel_rfl) (fun _ _ _ h => h) (Or.inl ⟨by rfl, ?_⟩) ?_ ?_
        rotate_left
        · intro w'; go_simp; with_reducible rfl
        rotate_left
        · simp only [Act.put, List.setIfInBounds_toArray, List.set_cons_zero, List.set_cons_succ, i64_w, i32_w]; rfl
        refine pure_ (i := 5) (N := some 67) (v := ?_) (a' := ?_) #[true, true, true, true, true, true, false, false, false, false, false] rfl rfl (by kernel_rfl) (fun _ _ _ h => h) (Or.inl ⟨by rfl, ?_⟩) ?_ ?_
        rotate_left
        · intro w'; go_simp; with_reducible rfl
        rotate_left
        · simp only [Act.put, List.setIfInBounds_toArray, List.set_cons_zero, List.set_cons_succ, i64_w, i32_w]; rfl
        refine pure_ (i := 6) (N := some 68) (v := ?_) (a' := ?_) #[true, true, true, true, true, true, true, false, false, false, false] rfl rfl (by kernel_rfl) (fun _ _ _ h => h) (Or.inl ⟨by rfl, ?_⟩) ?_ ?_
        rotate_left
        · intro w'; go_simp; with_reducible rfl
        rotate_left
        · simp only [Act.put, List.setIfInBounds_toArray, List.set_cons_zero, List.set_cons_succ, i64_w, i32_w]; rfl
        refine take_ (i := 7) (N := some 69) (v := ?_) (a' := ?_) #[true, true, true, true, true, true, true, true, false, false, false] rfl rfl (by kernel_rfl) (fun _ _ _ h => h) (Or.inl ⟨by rfl, ?_⟩) hHeld ?_ ?_
        rotate_left
        · rintro w' ⟨s0, _, _⟩; go_simp; with_reducible rfl
        rotate_left
        · simp only [Act.put, List.setIfInBounds_toArray, List.set_cons_zero, List.set_cons_succ, i64_w, i32_w]; rfl
        refine one_ (i := 8) (N := some 70) #[true, true, true, true, true, true, true, true, true, false, false] rfl rfl (by kernel_rfl) (by decide) (fun K hK => ?_)
        refine goes_ Tryz.func72 (by kernel_rfl) rfl #[.agg #[.string t.f0, .slice A1_ t.f1.length c1_, .slice A2 t.f2.length c2, .slice A3_ t.f3.length c3_, .slice A4 t.f4.length c4], .slice A6 nw.length c6] (by rfl) rfl rfl (by (try simp only [List.map_toArray, List.map_cons, List.map_nil]); first | done | rfl) ?_
        refine (HKW.out _ hHeld.2.2).mono ?_
        rintro e W5 ⟨rfl, hb5⟩
        refine ⟨_, rfl, ?_⟩
        have hb6 := below_step hHeld.2.2 hb5
        refine hK.out _ _ (KB.out _ hb6) (fun hHeld2 => ?_)
        clear hK K
        refine norm_ (a' := ?_) ?_ ?_
        rotate_left
        · show Act.put _ (some 70) _ = _; simp only [Act.put, List.setIfInBounds_toArray, List.set_cons_zero, List.set_cons_succ, i64_w, i32_w]; rfl
        refine pure_ (i := 9) (N := some 71) (v := ?_) (a' := ?_) #[true, true, true, true, true, true, true, true, true, true, false] rfl rfl (by kernel_rfl) (fun _ _ _ h => h) (Or.inl ⟨by rfl, ?_⟩) ?_ ?_
        rotate_left
        · intro w'; go_simp; with_reducible rfl
        rotate_left
        · simp only [Act.put, List.setIfInBounds_toArray, List.set_cons_zero, List.set_cons_succ, i64_w, i32_w]; rfl
        refine pure_ (i := 10) (N := some 61) (v := ?_) (a' := ?_) #[true, true, true, true, true, true, true, true, true, true, true] rfl rfl (by kernel_rfl) (fun _ _ _ h => h) (Or.inl ⟨by rfl, ?_⟩) ?_ ?_
        rotate_left
        · intro w'; go_simp; with_reducible rfl
        rotate_left
        · simp only [Act.put, List.setIfInBounds_toArray, List.set_cons_zero, List.set_cons_succ, i64_w, i32_w]; rfl
        refine done_ (by kernel_rfl) ?_
        have HB6 := Aside0.mk hb6
        clear hb6 hb5 hHeld hHeld2 KB HKW
        cases a with
        | false =>
          have hp := HP2.out
          rw [if_neg (by decide)] at hp
          cases hp
          go_wp2
          go_ret2
          exact ⟨_, rfl, Kd.S_nil _ _ _ _ _, below_step HW4.out HB6.out⟩
        | true =>
          have hp := HP2.out
          rw [if_pos rfl] at hp
          obtain ⟨b, hb, hp⟩ := Option.bind_eq_some_iff.mp hp
          have hol : (d.set n.toNat nw).length = d.length := List.length_set
          have hwf : ∀ rows ∈ d.set n.toNat nw, ∀ row ∈ rows, ∀ x ∈ row, wfV x := by
            intro rs hr
            rcases List.mem_or_eq_of_mem_set hr with h1 | h1
            · exact HWD.out rs h1
            · rw [h1]; exact HNWF.out
          have hRF : Calls Tryz.prog 73 #[.slice (some at_) s.length c0, .slice (some ⟨g, 0, none⟩) (d.set n.toNat nw).length cap, .int .i64 n] W5 fun e w' => e = .returned (.bool b) ∧ Below W5.heap.size W5 w' := refsHold_walk (some at_) c0 s (some ⟨g, 0, none⟩) cap (d.set n.toNat nw) n b W5 (Kd.C_below HS.out (below_step HW4.out HB6.out)) hc0 (Kd.C_below (hol ▸ HO4.out.2.2) HB6.out) (hol ▸ HO4.out.2.1) hwf hn0 hns (by rw [hol]; exact hnd) (by rw [HT.out]; exact hb)
          rw [hol] at hRF
          have HRF := Aside0.mk hRF
          have HP3 := Aside0.mk hp
          have HOL2 := Aside0.mk hol
          clear hRF hp hb hwf hol HP2
          cases b with
          | false =>
            have hp := HP3.out
            rw [if_neg (by decide)] at hp
            cases hp
            go_wp2_with (go_at_call 73; refine HRF.out.mono ?_; rintro e w6 ⟨rfl, hb6⟩)
            go_ret2
            exact ⟨_, rfl, Kd.S_nil _ _ _ _ _, below_step HW4.out (below_step HB6.out hb6)⟩
          | true =>
            have hp := HP3.out
            rw [if_pos rfl] at hp
            cases hp
            clear HP3
            go_wp2_with (go_at_call 73; refine HRF.out.mono ?_; rintro e w6 ⟨rfl, hb6⟩)
            go_ret2
            exact ⟨_, rfl, Kd.S_below (Kd.S_lower HS4.out HW.out.size) (below_step HB6.out hb6), below_step HW4.out (below_step HB6.out hb6)⟩
theorem insert_walk (k : Nat) (A0 : Option Addr) (c0 : Nat) (s : List S49) (A1 : Option Addr) (c1 : Nat) (d : Data) (nm : ByteArray) (A3 : Option Addr) (c3 : Nat) (rows : Rows) (r1 : Data) (r2 : Int) (w : World)
    (hS : Kd.C k49 w A0 s.length s) (hc0 : s.length ≤ c0) (hD : Kd.C (Kd.slice 89 (Kd.slice 87 k64)) w A1 d.length d) (hc1 : d.length ≤ c1) (hR : Kd.C (Kd.slice 87 k64) w A3 rows.length rows) (hc3 : rows.length ≤ c3)
    (hwd : wfData d) (hwr : wfRows rows) (hsd : dataP k s d = some true → smallData d) (hrl : rows.length ≤ 6000000000000) (hsr : dataP k s d = some true → 0 ≤ findP nm 0 s → errsP (rd_T49 s (findP nm 0 s)) rows = 0 → rows.length ≤ 1000 → smallRows rows) (hL : LaidL w) (h : insertP k s d nm rows = some (r1, r2)) :
    Calls Tryz.prog 22 #[.slice A0 s.length c0, .slice A1 d.length c1, .string nm, .slice A3 rows.length c3] w fun e w' => ∃ (A : Option Addr) (c : Nat), e = .returned (.tuple #[.slice A r1.length c, .int .i64 r2]) ∧ r1.length ≤ c ∧ Kd.C (Kd.slice 89 (Kd.slice 87 k64)) w' A r1.length r1 ∧ Below w.heap.size w w' := by
  refine (insertS_walk k A0 c0 s A1 c1 d nm A3 c3 rows r1 r2 w hS hc0 hD hc1 hR hc3 hwd hwr hsd hrl hsr hL h).mono ?_
  rintro e w' ⟨v0, rfl, hv, hb⟩
  obtain ⟨A, c, rfl, hl, hC⟩ := Kd.S_reads hv
  exact ⟨A, c, rfl, hl, hC, hb⟩
end Go.Proofs.YthgfdnffnbclpaaGreatDoor.PAll
namespace Go.Proofs.YthgfdnffnbclpaaGreatDoor.PAll
open Go.RowKit Go.Proofs.YthgfdnffnbclpaaGreatDoorW.PrintWords Go.Proofs.YthgfdnffnbclpaaGreatDoorW.PrintLast Go.Proofs.YthgfdnffnbclpaaGreatDoorW.PrintMore

def smallT (t : S49) : Prop := t.f1.length ≤ 2000000 ∧ smallKeys t.f2 ∧ (t.f3.length ≤ 2000000 ∧ ∀ r ∈ t.f3, r.f0.length ≤ 2000000) ∧ t.f4.length ≤ 2000000
def smallSch (s : List S49) : Prop := s.length ≤ 2000000 ∧ ∀ t ∈ s, smallT t
end Go.Proofs.YthgfdnffnbclpaaGreatDoor.PAll
namespace Go.Proofs.YthgfdnffnbclpaaGreatDoor.PAll
open Go.RowKit Go.Proofs.YthgfdnffnbclpaaGreatDoorW.PrintWords Go.Proofs.YthgfdnffnbclpaaGreatDoorW.PrintLast Go.Proofs.YthgfdnffnbclpaaGreatDoorW.PrintMore

set_option maxHeartbeats 4000000 in
set_option maxRecDepth 100000 in
theorem copiedA_walk (A0 : Option Addr) (c0 : Nat) (s : List S49) (w : World) (hr0 : Kd.C k49 w A0 s.length s) (hc0 : s.length ≤ c0) (hs : smallSch s) :
    Calls Tryz.prog 34 #[.slice A0 s.length c0] w fun e w' => ∃ v0_ : Value, e = .returned (v0_) ∧ Kd.S k49a 72 w' w.heap.size (fun _ => True) v0_ s ∧ Below w.heap.size w w' := by
  have HR := Aside0.mk hr0
  have HS := Aside0.mk hs
  have HB0 := Aside0.mk (Below.refl w.heap.size w)
  have hlen := hs.1
  clear hr0 hs
  obtain ⟨i0, hi0, hz0, hz1, hz2⟩ := info_parts (P := Tryz.prog) info72
  obtain ⟨W1, hmk0, hown0, hgr0⟩ := run_make_own w w.heap.size 23 72 i0 _ 5 Tryz.underlying23 hi0 hz0 hz1 .i64 .i64 (s.length + 1) (by rw [hz2]; omega) (by unfold maxLen; omega) (Nat.le_refl _)
  have HB1 : Aside0 (Below w.heap.size w W1) := ⟨HB0.out.grown hgr0 (Nat.le_refl _) (fun j hj => by cases hj)⟩
  have HO1 : Aside0 (Kd.S k49a 72 W1 w.heap.size (fun _ => True) (.slice (some ⟨w.heap.size, 0, none⟩) 0 (s.length + 1)) []) := ⟨⟨fun _ => 0, fun _ _ => trivial, [], hown0, Reps.none _ _⟩⟩
  rw [show ((s.length + 1 : Nat) : Int) = (s.length : Int) + 1 by omega] at hmk0
  clear hown0 hgr0 hi0 hz0 hz1 hz2 HB0
  go_enter Tryz.func34, Tryz.ntmps34
  go_wp2
  go_loopg [3, 13] s.length (fun gk v3 v13 wx => ∃ (i : Nat), i + gk = s.length ∧ v13 = .int .i64 i ∧ Aside0 (Kd.S k49a 72 wx w.heap.size (fun _ => True) v3 (s.take i)) ∧ Aside0 (Below w.heap.size w wx))
  case atStart => exact ⟨0, by omega, rfl, by simpa using HO1, HB1⟩
  case round =>
    clear HO1 HB1 hmk0
    obtain ⟨i, hi, rfl, HO, HB⟩ := hrel
    cases gk with
    | zero =>
      have e : s.take i = s := List.take_of_length_le (by omega)
      have hii : ¬ (i : Int) < (s.length : Int) := by omega
      rw [e] at HO
      go_wp2
      go_ret
      exact ⟨_, rfl, HO.out, HB.out⟩
    | succ gk =>
      have hlt : i < s.length := by omega
      have hii : (i : Int) < (s.length : Int) := by omega
      have hi0 : (0 : Int) ≤ (i : Int) := by omega
      have hrd : rd_T49 s (i : Int) = s[i] := by unfold rd_T49; simp [List.getD, hlt]
      obtain ⟨aa, P1, p1, P2, p2, P3, p3, P4, p4, haa, z0, z1, z2, z3, z4, m1, C1, m2, C2, m3, C3, m4, C4⟩ := at_T49 HR.out (i : Int) hi0 hii
      cases haa
      rw [hrd] at z0 z1 z2 z3 z4 m1 C1 m2 C2 m3 C3 m4 C4
      rw [Int.toNat_natCast] at z0 z1 z2 z3 z4
      replace z0 := (HB.out.cell (World.block_lt_of_cell? w _ z0)).trans z0
      replace z1 := (HB.out.cell (World.block_lt_of_cell? w _ z1)).trans z1
      replace z2 := (HB.out.cell (World.block_lt_of_cell? w _ z2)).trans z2
      replace z3 := (HB.out.cell (World.block_lt_of_cell? w _ z3)).trans z3
      replace z4 := (HB.out.cell (World.block_lt_of_cell? w _ z4)).trans z4
      have hsm := HS.out.2 s[i] (List.getElem_mem hlt)
      have HT := Aside0.mk (take_snoc hlt)
      generalize s[i] = x at *
      have HSM := Aside0.mk hsm
      have HC1 := Aside0.mk C1
      have HC2 := Aside0.mk C2
      have HC3 := Aside0.mk C3
      have HC4 := Aside0.mk C4
      clear hrd hsm C1 C2 C3 C4
      go_upto_region 5 with (fail)
      obtain ⟨B, hB⟩ : ∃ B, B = wr.heap.size := ⟨_, rfl⟩
      obtain ⟨Wa, hWa⟩ : ∃ W, W = wr.alloc (Obj.cells #[Value.string x.f0, Value.slice P1 x.f1.length p1, Value.slice P2 x.f2.length p2, Value.slice P3 x.f3.length p3, Value.slice P4 x.f4.length p4] 72) := ⟨_, rfl⟩
      have hba : Wa.heap[B]? = some (.cells #[Value.string x.f0, Value.slice P1 x.f1.length p1, Value.slice P2 x.f2.length p2, Value.slice P3 x.f3.length p3, Value.slice P4 x.f4.length p4] 72 (0, 0)) := by rw [hWa, hB]; exact Go.Deep.blk_alloc_new wr _
      have hBa : Below w.heap.size w Wa := by rw [hWa]; exact below_step HB.out ((Below.refl _ _).alloc (Nat.le_refl _) _)
      have hBw : w.heap.size ≤ B := by rw [hB]; exact HB.out.size
      have hBr : Below wr.heap.size wr Wa := by rw [hWa]; exact (Below.refl _ _).alloc (Nat.le_refl _) _
      have hBs : B < Wa.heap.size := blk_lt hba
      have hBe : wr.heap.size ≤ B := by omega
      rw [← hWa, ← hB]
      clear hWa hB z0 z1 z2 z3 z4
      have hx1 : Wa.cell? ⟨B, 1, none⟩ = some (Value.slice P1 x.f1.length p1) := (blk_cell hba 1).trans rfl
      have hx1f := blk_frozen hba 1
      have HN1 := Aside0.mk (clCols_walk P1 p1 x.f1 Wa (Kd.C_below HC1.out hBa) m1 (by have := HSM.out.1; omega))
      go_upto_region 6 with (go_at_call 84; refine HN1.out.mono ?_; rintro e w1 ⟨v1, rfl, hv1, hb1⟩; obtain ⟨A5, c5, ev⟩ := Kd.R_slice hv1; subst ev; have hbb := (hb1.block _ (blk_lt hba)).trans hba; have hx1 : w1.cell? ⟨B, 1, none⟩ = some (Value.slice P1 x.f1.length p1) := (blk_cell hbb 1).trans rfl; have hx1f := blk_frozen hbb 1)
      obtain ⟨Wb, hWb⟩ : ∃ W, W = w1.setCell ⟨B, 1, none⟩ (Value.slice A5 x.f1.length c5) := ⟨_, rfl⟩
      have hbB : Wb.heap[B]? = some (.cells #[Value.string x.f0, Value.slice A5 x.f1.length c5, Value.slice P2 x.f2.length p2, Value.slice P3 x.f3.length p3, Value.slice P4 x.f4.length p4] 72 (0, 0)) := by rw [hWb]; exact blk_put hbb 1 _ rfl
      have hBb : Below wr.heap.size wr Wb := by rw [hWb]; exact below_set (below_step hBr hb1) (by omega)
      have HV1 : Aside0 (Kd.R k78 83 Wb Wa.heap.size (fun k => B < k) (Value.slice A5 x.f1.length c5) x.f1) := ⟨by rw [hWb]; exact Kd.R_far (Kd.R_mono (Kd.R_bound hv1) (fun k hk => Nat.lt_of_lt_of_le hBs hk.2.1)) (fun k hk => Nat.ne_of_gt hk) _⟩
      rw [← hWb]
      clear hWb hbb hv1 hb1 hba hx1 hx1f HN1
      have HBw := Aside0.mk (below_step HB.out hBb)
      have hx2 : Wb.cell? ⟨B, 2, none⟩ = some (Value.slice P2 x.f2.length p2) := (blk_cell hbB 2).trans rfl
      have HN2 := Aside0.mk (copyKeys_walk P2 p2 x.f2 Wb (Kd.C_below HC2.out HBw.out) m2 HSM.out.2.1)
      go_upto_region 7 with (go_at_call 85; refine HN2.out.mono ?_; rintro e w2 ⟨v2, rfl, hv2, hb2⟩; obtain ⟨A6, c6, ev⟩ := Kd.S_slice hv2; subst ev; have hbb := (hb2.block _ (blk_lt hbB)).trans hbB; have hx2 : w2.cell? ⟨B, 2, none⟩ = some (Value.slice P2 x.f2.length p2) := (blk_cell hbb 2).trans rfl; have hx2f := blk_frozen hbb 2)
      obtain ⟨Wc, hWc⟩ : ∃ W, W = w2.setCell ⟨B, 2, none⟩ (Value.slice A6 x.f2.length c6) := ⟨_, rfl⟩
      have hbC : Wc.heap[B]? = some (.cells #[Value.string x.f0, Value.slice A5 x.f1.length c5, Value.slice A6 x.f2.length c6, Value.slice P3 x.f3.length p3, Value.slice P4 x.f4.length p4] 72 (0, 0)) := by rw [hWc]; exact blk_put hbb 2 _ rfl
      have hBc : Below wr.heap.size wr Wc := by rw [hWc]; exact below_set (below_step hBb hb2) (by omega)
      have hBb2 : B < Wb.heap.size := blk_lt hbB
      have HV1c : Aside0 (Kd.R k78 83 Wc B (fun k => B < k) (Value.slice A5 x.f1.length c5) x.f1) := ⟨by rw [hWc]; exact Kd.R_lower (Kd.R_far (Kd.R_below HV1.out hb2) (fun k hk => Nat.ne_of_gt hk) _) (Nat.le_of_lt hBs)⟩
      have HV2c : Aside0 (Kd.R (Kd.slice 3 (Kd.int .i64)) 70 Wc B (fun k => B < k) (Value.slice A6 x.f2.length c6) x.f2) := ⟨by rw [hWc]; exact Kd.R_lower (Kd.R_far (Kd.R_mono (Kd.R_bound (Kd.S_R hv2)) (fun k hk => Nat.lt_of_lt_of_le hBb2 hk.2.1)) (fun k hk => Nat.ne_of_gt hk) _) (Nat.le_of_lt hBb2)⟩
      rw [← hWc]
      clear hWc hbb hv2 hb2 hbB hx2 hx2f HN2 HV1 HBw hBb
      have HBw := Aside0.mk (below_step HB.out hBc)
      have hx3 : Wc.cell? ⟨B, 3, none⟩ = some (Value.slice P3 x.f3.length p3) := (blk_cell hbC 3).trans rfl
      obtain ⟨L, hL, hCL0, hLx⟩ := raw75 HC3.out
      have hCL := Kd.C_below hCL0 HBw.out
      have hn3 := clRefs_walk P3 p3 L Wc (by rw [hL]; exact hCL) (by rw [hL]; exact m3) (by have := HSM.out.2.2.1.1; omega)
      rw [hL] at hn3
      have HN3 := Aside0.mk hn3
      have HLX := Aside0.mk hLx
      have HL := Aside0.mk hL
      clear hn3 hLx hCL hCL0 hL
      go_upto_region 8 with (go_at_call 87; refine HN3.out.mono ?_; rintro e w3 ⟨v3, rfl, hv3, hb3⟩; obtain ⟨A7, c7, ev⟩ := Kd.R_slice hv3; rw [HL.out] at ev; subst ev; have hbb := (hb3.block _ (blk_lt hbC)).trans hbC; have hx3 : w3.cell? ⟨B, 3, none⟩ = some (Value.slice P3 x.f3.length p3) := (blk_cell hbb 3).trans rfl; have hx3f := blk_frozen hbb 3)
      obtain ⟨Wd, hWd⟩ : ∃ W, W = w3.setCell ⟨B, 3, none⟩ (Value.slice A7 x.f3.length c7) := ⟨_, rfl⟩
      have hbD : Wd.heap[B]? = some (.cells #[Value.string x.f0, Value.slice A5 x.f1.length c5, Value.slice A6 x.f2.length c6, Value.slice A7 x.f3.length c7, Value.slice P4 x.f4.length p4] 72 (0, 0)) := by rw [hWd]; exact blk_put hbb 3 _ rfl
      have hBd : Below w.heap.size w Wd := by rw [hWd]; exact below_set (below_step HBw.out hb3) (by omega)
      have hBc2 : B < Wc.heap.size := blk_lt hbC
      have HV1d : Aside0 (Kd.R k78 83 Wd B (fun k => B < k ∧ k < Wc.heap.size) (Value.slice A5 x.f1.length c5) x.f1) := ⟨by rw [hWd]; exact Kd.R_far (Kd.R_below (Kd.R_mono (Kd.R_bound HV1c.out) (fun k hk => ⟨hk.1, hk.2.2.1⟩)) hb3) (fun k hk => Nat.ne_of_gt hk.1) _⟩
      have HV2d : Aside0 (Kd.R (Kd.slice 3 (Kd.int .i64)) 70 Wd B (fun k => B < k ∧ k < Wc.heap.size) (Value.slice A6 x.f2.length c6) x.f2) := ⟨by rw [hWd]; exact Kd.R_far (Kd.R_below (Kd.R_mono (Kd.R_bound HV2c.out) (fun k hk => ⟨hk.1, hk.2.2.1⟩)) hb3) (fun k hk => Nat.ne_of_gt hk.1) _⟩
      have HV3d : Aside0 (Kd.R (Kd.raw 3) 75 Wd B (fun k => Wc.heap.size ≤ k ∧ k < Wd.heap.size) (Value.slice A7 x.f3.length c7) L) := ⟨Kd.R_mono (Kd.R_bound (by rw [hWd]; exact Kd.R_lower (Kd.R_far (Kd.R_mono (Kd.R_bound hv3) (fun k hk => (hk.2.1 : Wc.heap.size ≤ k))) (fun k hk => Nat.ne_of_gt (Nat.lt_of_lt_of_le hBc2 hk)) _) (Nat.le_of_lt hBc2))) (fun k hk => ⟨hk.1, hk.2.2.1⟩)⟩
      have HO4 : Aside0 (Kd.S k49a 72 Wd w.heap.size (fun k => k < B) u3 (s.take i)) := ⟨by rw [hWd]; exact Kd.S_far (Kd.S_below (Kd.S_mono (Kd.S_old HO.out hBc) (fun k hk => Nat.lt_of_lt_of_le hk.2 hBe)) hb3) (fun k hk => Nat.ne_of_lt hk) _⟩
      rw [← hWd]
      have HBd := Aside0.mk hBd
      have HBD := Aside0.mk hbD
      have hx3d : Wd.cell? ⟨B, 3, none⟩ = some (Value.slice A7 x.f3.length c7) := (blk_cell hbD 3).trans rfl
      have HLd : Aside0 (∀ j y, x.f3[j]? = some y → (j < 0 → ∃ v', L[j]? = some [v', Value.int .i64 y.f1, Value.int .i64 y.f2] ∧ (Kd.int .i64).R 3 Wd B (fun k => Wd.heap.size ≤ k) v' y.f0) ∧ (0 ≤ j → ∃ A' c', L[j]? = some [Value.slice A' y.f0.length c', Value.int .i64 y.f1, Value.int .i64 y.f2] ∧ y.f0.length ≤ c' ∧ (Kd.int .i64).C w A' y.f0.length y.f0)) := ⟨fun j y hy => ⟨fun h => by omega, fun _ => HLX.out j y hy⟩⟩
      have HBD2 : Aside0 (B < Wd.heap.size) := ⟨blk_lt hbD⟩
      clear hWd hBd hbD HV1c HV2c hv3 hb3 hbb hx3f HN3 HBw hBb2 hBc HLX HO hbC
      go_wp2
      clear hx3d
      go_loopg [32] x.f3.length (fun gk v32 wx => ∃ (m : Nat) (L' : List (List Value)), m + gk = x.f3.length ∧ v32 = .int .i64 m ∧ Aside0 (wx.heap[B]? = some (.cells #[Value.string x.f0, Value.slice A5 x.f1.length c5, Value.slice A6 x.f2.length c6, Value.slice A7 x.f3.length c7, Value.slice P4 x.f4.length p4] 72 (0, 0)))
        ∧ Aside0 (Kd.R k78 83 wx B (fun k => B < k ∧ k < Wc.heap.size) (Value.slice A5 x.f1.length c5) x.f1) ∧ Aside0 (Kd.R (Kd.slice 3 (Kd.int .i64)) 70 wx B (fun k => B < k ∧ k < Wc.heap.size) (Value.slice A6 x.f2.length c6) x.f2)
        ∧ Aside0 (Kd.R (Kd.raw 3) 75 wx B (fun k => Wc.heap.size ≤ k ∧ k < Wd.heap.size) (Value.slice A7 x.f3.length c7) L') ∧ Aside0 (L'.length = x.f3.length)
        ∧ Aside0 (∀ j y, x.f3[j]? = some y → (j < m → ∃ v', L'[j]? = some [v', Value.int .i64 y.f1, Value.int .i64 y.f2] ∧ (Kd.int .i64).R 3 wx B (fun k => Wd.heap.size ≤ k) v' y.f0) ∧ (m ≤ j → ∃ A' c', L'[j]? = some [Value.slice A' y.f0.length c', Value.int .i64 y.f1, Value.int .i64 y.f2] ∧ y.f0.length ≤ c' ∧ (Kd.int .i64).C w A' y.f0.length y.f0))
        ∧ Aside0 (Kd.S k49a 72 wx w.heap.size (fun k => k < B) u3 (s.take i)) ∧ Aside0 (Below w.heap.size w wx) ∧ Aside0 (Wd.heap.size ≤ wx.heap.size))
      case atStart => exact ⟨0, L, by omega, rfl, HBD, HV1d, HV2d, HV3d, HL, HLd, HO4, HBd, ⟨Nat.le_refl _⟩⟩
      case round =>
        clear HBD HV1d HV2d HV3d HL HLd HO4 HBd
        obtain ⟨m, L', hm, rfl, HBX, HV1, HV2, HV3, HL, HLX, HO, HBW, HSZ⟩ := hrel
        cases gk with
        | succ gi =>
          have hlt : m < x.f3.length := by omega
          have hmi : (m : Int) < (x.f3.length : Int) := by omega
          have hm0 : (0 : Int) ≤ (m : Int) := by omega
          obtain ⟨G, cap, ev, hg1, hg2, gcells, hgc⟩ := Kd.R_form HV3.out (by rw [HL.out]; omega)
          rw [HL.out] at ev
          simp only [Value.slice.injEq, true_and] at ev
          obtain ⟨eA, eC⟩ := ev
          subst eA
          obtain ⟨hge, hgs⟩ : Wc.heap.size ≤ G ∧ G < Wd.heap.size := HV3.out.1 G (by simp [Value.ownBlock])
          obtain ⟨A', c', hLm, hcl, hC'⟩ := (HLX.out m x.f3[m] (List.getElem?_eq_getElem hlt)).2 (Nat.le_refl _)
          obtain ⟨cc, hccl, hccM, hcc⟩ := Kd.R_getA HV3.out ([] : List Value) (m : Int) hm0 hmi
          have hgd : L'.getD (m : Int).toNat [] = [Value.slice A' x.f3[m].f0.length c', Value.int .i64 x.f3[m].f1, Value.int .i64 x.f3[m].f2] := by rw [Int.toNat_natCast, List.getD_eq_getElem?_getD, hLm]; rfl
          rw [hgd] at hccM
          have hce : cc = [Value.slice A' x.f3[m].f0.length c', Value.int .i64 x.f3[m].f1, Value.int .i64 x.f3[m].f2] := hccM.1
          subst hce
          have hcell0 := hcc 0 _ rfl
          have hcell : wr.cell? ⟨G, m * 3, none⟩ = some (Value.slice A' x.f3[m].f0.length c') := by rw [add_plain] at hcell0; simpa [Kd.raw] using hcell0
          have hbox : wr.cell? ⟨B, 3, none⟩ = some (Value.slice (some ⟨G, 0, none⟩) x.f3.length c7) := (blk_cell HBX.out 3).trans rfl
          have hrow := (HSM.out.2.2.1.2 x.f3[m] (List.getElem_mem hlt))
          have hBs2 : Wc.heap.size ≤ wr.drew.heap.size := by show Wc.heap.size ≤ wr.heap.size; omega
          have hfit : m * 3 + 1 ≤ gcells.size := by
            have h2 := (blk_cell hgc (m * 3)).symm.trans hcell
            have := (Array.getElem?_eq_some_iff.1 h2).1
            omega
          have hyj : x.f3[m]? = some x.f3[m] := List.getElem?_eq_getElem hlt
          generalize x.f3[m] = y at *
          have HN : Aside0 (Calls Tryz.prog 86 #[.slice A' y.f0.length c'] wr.drew fun e w' => ∃ v0_ : Value, e = .returned (v0_) ∧ Kd.R (Kd.int .i64) 3 w' wr.drew.heap.size (fun _ => True) v0_ y.f0 ∧ Below wr.drew.heap.size wr.drew w') := ⟨clInts_walk A' c' y.f0 wr.drew (Kd.C_below hC' (below_drew1 HBW.out)) hcl (by omega)⟩
          have hd : wr.drew.cell? ⟨B, 3, none⟩ = some (Value.slice (some ⟨G, 0, none⟩) x.f3.length c7) ∧ wr.drew.cell? ⟨G, m * 3, none⟩ = some (Value.slice A' y.f0.length c') := ⟨hbox, hcell⟩
          have HCC : Aside0 (∀ j u, [Value.slice A' y.f0.length c', Value.int .i64 y.f1, Value.int .i64 y.f2][j]? = some u → wr.drew.cell? ⟨G, m * 3 + j, none⟩ = some u) := ⟨fun j u hj => by have := hcc j u hj; rw [add_plain, Int.toNat_natCast] at this; simpa [Kd.raw] using this⟩
          have HBXd : Aside0 (wr.drew.heap[B]? = some (.cells #[Value.string x.f0, Value.slice A5 x.f1.length c5, Value.slice A6 x.f2.length c6, Value.slice (some ⟨G, 0, none⟩) x.f3.length c7, Value.slice P4 x.f4.length p4] 72 (0, 0))) := ⟨HBX.out⟩
          have HGC : Aside0 (wr.drew.heap[G]? = some (.cells gcells 75 (0, 0))) := ⟨hgc⟩
          have HGS : Aside0 (Wc.heap.size ≤ G ∧ G < Wd.heap.size ∧ Wd.heap.size ≤ wr.drew.heap.size) := ⟨hge, hgs, HSZ.out⟩
          have HV1d := Aside0.mk (Kd.R_drew HV1.out)
          have HV2d := Aside0.mk (Kd.R_drew HV2.out)
          have HV3d := Aside0.mk (Kd.R_drew HV3.out)
          have HOd := Aside0.mk (Kd.S_drew HO.out)
          have HBWd := Aside0.mk (below_drew1 HBW.out)
          have HLXd : Aside0 (∀ j z, x.f3[j]? = some z → (j < m → ∃ v', L'[j]? = some [v', Value.int .i64 z.f1, Value.int .i64 z.f2] ∧ (Kd.int .i64).R 3 wr.drew B (fun k => Wd.heap.size ≤ k) v' z.f0) ∧ (m ≤ j → ∃ A' c', L'[j]? = some [Value.slice A' z.f0.length c', Value.int .i64 z.f1, Value.int .i64 z.f2] ∧ z.f0.length ≤ c' ∧ (Kd.int .i64).C w A' z.f0.length z.f0)) := ⟨fun j z hz => ⟨fun h => by obtain ⟨v', h1, h2⟩ := (HLX.out j z hz).1 h; exact ⟨v', h1, Kd.R_drew h2⟩, (HLX.out j z hz).2⟩⟩
          have HYJ := Aside0.mk hyj
          have hBc3 : Aside0 (B < Wc.heap.size) := ⟨hBc2⟩
          clear hbox hcell hcell0 hcc hccM hccl hgd hLm hgc hge hgs hrow hBs2 HV1 HV2 HV3 HO HBW HLX HBX HSZ hC' hyj hBc2 hg1 hg2
          go_wp2
          refine start_ (n := 13) (S := fun W => W.cell? ⟨B, 3, none⟩ = some (Value.slice (some ⟨G, 0, none⟩) x.f3.length c7) ∧ W.cell? ⟨G, m * 3, none⟩ = some (Value.slice A' y.f0.length c')) (ds := [12]) #[false, false, false, false, false, false, false, false, false, false, false, false, false] (by kernel_rfl) rfl rfl hd (fun hHeld => ?_)
          clear hd
          generalize wr.drew = W1 at *
          refine pure_ (i := 0) (N := some 35) (v := ?_) (a' := ?_) #[true, false, false, false, false, false, false, false, false, false, false, false, false] rfl rfl (by kernel_rfl) (fun _ _ _ h => h) (Or.inl ⟨by rfl, ?_⟩) ?_ ?_
          rotate_left
          · intro w'; go_simp; with_reducible rfl
          rotate_left
          · simp only [Act.put, List.setIfInBounds_toArray, List.set_cons_zero, List.set_cons_succ, i64_w, i32_w]; rfl
          refine take_ (i := 1) (N := some 36) (v := ?_) (a' := ?_) #[true, true, false, false, false, false, false, false, false, false, false, false, false] rfl rfl (by kernel_rfl) (fun _ _ _ h => h) (Or.inl ⟨by rfl, ?_⟩) hHeld ?_ ?_
          rotate_left
          · rintro w' ⟨s0, s1⟩; go_simp; with_reducible rfl
          rotate_left
          · simp only [Act.put, List.setIfInBounds_toArray, List.set_cons_zero, List.set_cons_succ, i64_w, i32_w]; rfl
          refine pure_ (i := 2) (N := some 37) (v := ?_) (a' := ?_) #[true, true, true, false, false, false, false, false, false, false, false, false, false] rfl rfl (by kernel_rfl) (fun _ _ _ h => h) (Or.inl ⟨by rfl, ?_⟩) ?_ ?_
          rotate_left
          · intro w'; go_simp; with_reducible rfl
          rotate_left
          · simp only [Act.put, List.setIfInBounds_toArray, List.set_cons_zero, List.set_cons_succ, i64_w, i32_w]; rfl
          refine pure_ (i := 3) (N := some 38) (v := ?_) (a' := ?_) #[true, true, true, true, false, false, false, false, false, false, false, false, false] rfl rfl (by kernel_rfl) (fun _ _ _ h => h) (Or.inl ⟨by rfl, ?_⟩) ?_ ?_
          rotate_left
          · intro w'; go_simp; with_reducible rfl
          rotate_left
          · simp only [Act.put, List.setIfInBounds_toArray, List.set_cons_zero, List.set_cons_succ, i64_w, i32_w]; rfl
          refine take_ (i := 4) (N := some 39) (v := ?_) (a' := ?_) #[true, true, true, true, true, false, false, false, false, false, false, false, false] rfl rfl (by kernel_rfl) (fun _ _ _ h => h) (Or.inl ⟨by rfl, ?_⟩) hHeld ?_ ?_
          rotate_left
          · rintro w' ⟨s0, s1⟩; go_simp; with_reducible rfl
          rotate_left
          · simp only [Act.put, List.setIfInBounds_toArray, List.set_cons_zero, List.set_cons_succ, i64_w, i32_w]; rfl
          refine pure_ (i := 5) (N := some 40) (v := ?_) (a' := ?_) #[true, true, true, true, true, true, false, false, false, false, false, false, false] rfl rfl (by kernel_rfl) (fun _ _ _ h => h) (Or.inl ⟨by rfl, ?_⟩) ?_ ?_
          rotate_left
          · intro w'; go_simp; with_reducible rfl
          rotate_left
          · simp only [Act.put, List.setIfInBounds_toArray, List.set_cons_zero, List.set_cons_succ, i64_w, i32_w]; rfl
          refine pure_ (i := 6) (N := some 41) (v := ?_) (a' := ?_) #[true, true, true, true, true, true, true, false, false, false, false, false, false] rfl rfl (by kernel_rfl) (fun _ _ _ h => h) (Or.inl ⟨by rfl, ?_⟩) ?_ ?_
          rotate_left
          · intro w'; go_simp; with_reducible rfl
          rotate_left
          · simp only [Act.put, List.setIfInBounds_toArray, List.set_cons_zero, List.set_cons_succ, i64_w, i32_w]; rfl
          refine pure_ (i := 7) (N := some 42) (v := ?_) (a' := ?_) #[true, true, true, true, true, true, true, true, false, false, false, false, false] rfl rfl (by kernel_rfl) (fun _ _ _ h => h) (Or.inl ⟨by rfl, ?_⟩) ?_ ?_
          rotate_left
          · intro w'; go_simp; with_reducible rfl
          rotate_left
          · simp only [Act.put, List.setIfInBounds_toArray, List.set_cons_zero, List.set_cons_succ, i64_w, i32_w]; rfl
          refine take_ (i := 8) (N := some 43) (v := ?_) (a' := ?_) #[true, true, true, true, true, true, true, true, true, false, false, false, false] rfl rfl (by kernel_rfl) (fun _ _ _ h => h) (Or.inl ⟨by rfl, ?_⟩) hHeld ?_ ?_
          rotate_left
          · rintro w' ⟨s0, s1⟩; go_simp; with_reducible rfl
          rotate_left
          · simp only [Act.put, List.setIfInBounds_toArray, List.set_cons_zero, List.set_cons_succ, i64_w, i32_w]; rfl
          refine one_ (i := 9) (N := some 44) #[true, true, true, true, true, true, true, true, true, true, false, false, false] rfl rfl (by kernel_rfl) (by decide) (fun K hK => ?_)
          refine goes_ Tryz.func86 (by kernel_rfl) rfl #[.slice A' y.f0.length c'] (by rfl) rfl rfl (by (try simp only [List.map_toArray, List.map_cons, List.map_nil]); first | done | rfl) ?_
          refine HN.out.mono ?_
          rintro e W2 ⟨v9, rfl, hv9, hb9⟩
          obtain ⟨A9, c9, e9⟩ := Kd.R_slice hv9
          subst e9
          refine ⟨_, rfl, ?_⟩
          refine hK.out _ _ ⟨(hb9.cell (World.block_lt_of_cell? W1 _ hHeld.1)).trans hHeld.1, (hb9.cell (World.block_lt_of_cell? W1 _ hHeld.2)).trans hHeld.2⟩ (fun hHeld2 => ?_)
          clear hK K
          refine norm_ (a' := ?_) ?_ ?_
          rotate_left
          · show Act.put _ (some 44) _ = _; simp only [Act.put, List.setIfInBounds_toArray, List.set_cons_zero, List.set_cons_succ, i64_w, i32_w]; rfl
          refine pure_ (i := 10) (N := some 45) (v := ?_) (a' := ?_) #[true, true, true, true, true, true, true, true, true, true, true, false, false] rfl rfl (by kernel_rfl) (fun _ _ _ h => h) (Or.inl ⟨by rfl, ?_⟩) ?_ ?_
          rotate_left
          · intro w'; go_simp; with_reducible rfl
          rotate_left
          · simp only [Act.put, List.setIfInBounds_toArray, List.set_cons_zero, List.set_cons_succ, i64_w, i32_w]; rfl
          refine pure_ (i := 11) (N := some 46) (v := ?_) (a' := ?_) #[true, true, true, true, true, true, true, true, true, true, true, true, false] rfl rfl (by kernel_rfl) (fun _ _ _ h => h) (Or.inl ⟨by rfl, ?_⟩) ?_ ?_
          rotate_left
          · intro w'; go_simp; with_reducible rfl
          rotate_left
          · simp only [Act.put, List.setIfInBounds_toArray, List.set_cons_zero, List.set_cons_succ, i64_w, i32_w]; rfl
          refine last_ (i := 12) (N := none) #[true, true, true, true, true, true, true, true, true, true, true, true, true] rfl rfl (by kernel_rfl) (by decide) (fun K hK => ?_)
          have hgc2 : W2.heap[G]? = some (.cells gcells 75 (0, 0)) := (hb9.block G (blk_lt HGC.out)).trans HGC.out
          refine step_store_run (by rfl) 70 (.tmp 46) (.tmp 44) rfl rfl rfl rfl (run_store_run 70 (.slice A9 y.f0.length c9) [.slice A9 y.f0.length c9] hgc2 rfl (by kernel_rfl) (by simpa using hfit) (by simp [Value.oneCell'])) ?_
          refine hK.out _ _ ?_
          clear hK K
          refine done_ (by kernel_rfl) ?_
          obtain ⟨g1, g2, g3⟩ := HGS.out
          obtain ⟨hR3, hgr⟩ := Kd.R_seg (Kd.R_below HV3d.out hb9) (m : Int) hm0 hmi (c := [Value.slice A' y.f0.length c', Value.int .i64 y.f1, Value.int .i64 y.f2]) (seg := [Value.slice A9 y.f0.length c9]) (j := 0) rfl (fun j u hj => by
            have h := HCC.out j u hj
            have := (hb9.cell (World.block_lt_of_cell? W1 _ h)).trans h
            simpa [Kd.raw] using this) (by show 0 + 1 ≤ 3; omega) (x' := [Value.slice A9 y.f0.length c9, Value.int .i64 y.f1, Value.int .i64 y.f2]) (okp := fun _ => False) ⟨rfl, rfl, by simp [Value.oneCell']⟩ (fun _ h => h.elim)
          have hoff : (m : Int).toNat * (Kd.raw 3).sz + 0 = m * 3 := by simp [Kd.raw]
          rw [hoff] at hR3 hgr
          have hWz : Below w.heap.size w (W2.setCells G (m * 3) [Value.slice A9 y.f0.length c9]) := Go.below_setCells (by have := hBc3.out; omega) _ _ _ (below_step HBWd.out hb9)
          have hnG : ∀ k, k < Wc.heap.size → some k ≠ some G := fun k hk he => by injection he with he; omega
          have hBXz := (hgr.block B (Nat.lt_of_lt_of_le (blk_lt HBXd.out) hb9.size) (hnG B hBc3.out)).trans ((hb9.block B (blk_lt HBXd.out)).trans HBXd.out)
          have hV1z := Kd.R_grown (Kd.R_below HV1d.out hb9) hgr (fun k hk => hnG k hk.2)
          have hV2z := Kd.R_grown (Kd.R_below HV2d.out hb9) hgr (fun k hk => hnG k hk.2)
          have hOz := Kd.S_grown (Kd.S_below HOd.out hb9) hgr (fun k hk => hnG k (Nat.lt_trans hk hBc3.out))
          have hnew : Kd.R (Kd.int .i64) 3 (W2.setCells G (m * 3) [Value.slice A9 y.f0.length c9]) B (fun k => Wd.heap.size ≤ k) (.slice A9 y.f0.length c9) y.f0 := Kd.R_grown (Kd.R_lower (Kd.R_mono (Kd.R_bound hv9) (fun k hk => Nat.le_trans g3 hk.2.1)) (by have := hBc3.out; omega)) hgr (fun k hk he => by injection he with he; omega)
          have HSZz : Aside0 (Wd.heap.size ≤ (W2.setCells G (m * 3) [Value.slice A9 y.f0.length c9]).heap.size) := ⟨Nat.le_trans g3 (Nat.le_trans hb9.size hgr.size)⟩
          have hLz : Aside0 (∀ j z, x.f3[j]? = some z → (j < m + 1 → ∃ v', (L'.set m [Value.slice A9 y.f0.length c9, Value.int .i64 y.f1, Value.int .i64 y.f2])[j]? = some [v', Value.int .i64 z.f1, Value.int .i64 z.f2] ∧ (Kd.int .i64).R 3 (W2.setCells G (m * 3) [Value.slice A9 y.f0.length c9]) B (fun k => Wd.heap.size ≤ k) v' z.f0) ∧ (m + 1 ≤ j → ∃ A' c', (L'.set m [Value.slice A9 y.f0.length c9, Value.int .i64 y.f1, Value.int .i64 y.f2])[j]? = some [Value.slice A' z.f0.length c', Value.int .i64 z.f1, Value.int .i64 z.f2] ∧ z.f0.length ≤ c' ∧ (Kd.int .i64).C w A' z.f0.length z.f0)) := ⟨fun j z hz => by
            have hlL : m < L'.length := by rw [HL.out]; omega
            by_cases e : j = m
            · subst e
              rw [HYJ.out] at hz
              obtain rfl := Option.some.inj hz
              exact ⟨fun _ => ⟨_, List.getElem?_set_self hlL, hnew⟩, fun h => by omega⟩
            · rw [List.getElem?_set_ne (Ne.symm e)]
              refine ⟨fun h => ?_, fun h => (HLXd.out j z hz).2 (by omega)⟩
              obtain ⟨v', h1, h2⟩ := (HLXd.out j z hz).1 (by omega)
              exact ⟨v', h1, Kd.R_grown (Kd.R_below h2 hb9) hgr (fun k hk he => by injection he with he; omega)⟩⟩
          rw [Int.toNat_natCast] at hR3
          have HLz : Aside0 ((L'.set m [Value.slice A9 y.f0.length c9, Value.int .i64 y.f1, Value.int .i64 y.f2]).length = x.f3.length) := ⟨by rw [List.length_set]; exact HL.out⟩
          generalize (W2.setCells G (m * 3) [Value.slice A9 y.f0.length c9]) = Wz at *
          have HBXz := Aside0.mk hBXz
          have HV1z := Aside0.mk hV1z
          have HV2z := Aside0.mk hV2z
          have HV3z := Aside0.mk hR3
          have HOz := Aside0.mk hOz
          have HWz := Aside0.mk hWz
          clear hBXz hV1z hV2z hR3 hOz hWz hnew hgr hnG hv9 hb9 hgc2 hHeld hHeld2 HV1d HV2d HV3d HOd HBWd HLXd HYJ HCC HBXd HGC HGS HN g1 g2 g3 hoff hfit HL
          go_wp2
          go_roundg gi
          case measure => omega
          case rel => exact ⟨m + 1, _, by omega, by first | rfl | (simp; done) | (have := HSM.out.2.2.1.1; simp; unfold wrap64; omega), HBXz, HV1z, HV2z, HV3z, HLz, hLz, HOz, HWz, HSZz⟩
        | zero =>
          have hmi : ¬ (m : Int) < (x.f3.length : Int) := by omega
          have hR3 : k75.R 75 wr B (fun k => B < k) (.slice A7 x.f3.length c7) x.f3 := raw_done (Kd.R_mono HV3.out (fun k hk => Nat.lt_of_lt_of_le hBc2 hk.1)) HL.out (fun j y hy => by
            have hj : j < m := by have := (List.getElem?_eq_some_iff.1 hy).1; omega
            obtain ⟨v', h1, h2⟩ := (HLX.out j y hy).1 hj
            exact ⟨v', h1, Kd.R_mono h2 (fun k hk => ⟨Nat.lt_of_lt_of_le HBD2.out hk, fun he => by have := (HV3.out.1 k he.symm).2; omega⟩)⟩)
          have hx4 : wr.cell? ⟨B, 4, none⟩ = some (Value.slice P4 x.f4.length p4) := (blk_cell HBX.out 4).trans rfl
          have HN4 := Aside0.mk (clInts_walk P4 p4 x.f4 wr (Kd.C_below HC4.out HBW.out) m4 (by have := HSM.out.2.2.2; omega))
          have HR3 := Aside0.mk hR3
          clear hR3 HV3 HL HLX
          go_upto_region 14 with (go_at_call 86; refine HN4.out.mono ?_; rintro e w4 ⟨v4, rfl, hv4, hb4⟩; obtain ⟨A8, c8, ev⟩ := Kd.R_slice hv4; subst ev; have hbb := (hb4.block _ (blk_lt HBX.out)).trans HBX.out; have hx4 : w4.cell? ⟨B, 4, none⟩ = some (Value.slice P4 x.f4.length p4) := (blk_cell hbb 4).trans rfl; have hx4f := blk_frozen hbb 4)
          obtain ⟨We, hWe⟩ : ∃ W, W = w4.setCell ⟨B, 4, none⟩ (Value.slice A8 x.f4.length c8) := ⟨_, rfl⟩
          have hBs3 : B < wr.heap.size := blk_lt HBX.out
          have hbE : We.heap[B]? = some (.cells #[Value.string x.f0, Value.slice A5 x.f1.length c5, Value.slice A6 x.f2.length c6, Value.slice A7 x.f3.length c7, Value.slice A8 x.f4.length c8] 72 (0, 0)) := by rw [hWe]; exact blk_put hbb 4 _ rfl
          have hBe2 : Below w.heap.size w We := by rw [hWe]; exact below_set (below_step HBW.out hb4) (by omega)
          have h1e : Kd.R k78 83 We B (fun k => B < k ∧ k < wr.heap.size) (Value.slice A5 x.f1.length c5) x.f1 := by rw [hWe]; exact Kd.R_far (Kd.R_below (Kd.R_mono (Kd.R_bound HV1.out) (fun k hk => ⟨hk.1.1, hk.2.2.1⟩)) hb4) (fun k hk => Nat.ne_of_gt hk.1) _
          have h2e : Kd.R (Kd.slice 3 (Kd.int .i64)) 70 We B (fun k => B < k ∧ k < wr.heap.size) (Value.slice A6 x.f2.length c6) x.f2 := by rw [hWe]; exact Kd.R_far (Kd.R_below (Kd.R_mono (Kd.R_bound HV2.out) (fun k hk => ⟨hk.1.1, hk.2.2.1⟩)) hb4) (fun k hk => Nat.ne_of_gt hk.1) _
          have h3e : k75.R 75 We B (fun k => B < k ∧ k < wr.heap.size) (Value.slice A7 x.f3.length c7) x.f3 := by rw [hWe]; exact Kd.R_far (Kd.R_below (Kd.R_mono (Kd.R_bound HR3.out) (fun k hk => ⟨hk.1, hk.2.2.1⟩)) hb4) (fun k hk => Nat.ne_of_gt hk.1) _
          have h4e : Kd.R (Kd.int .i64) 3 We B (fun k => wr.heap.size ≤ k) (Value.slice A8 x.f4.length c8) x.f4 := by rw [hWe]; exact Kd.R_lower (Kd.R_far (Kd.R_mono (Kd.R_bound hv4) (fun k hk => hk.2.1)) (fun k hk => Nat.ne_of_gt (Nat.lt_of_lt_of_le hBs3 hk)) _) (Nat.le_of_lt hBs3)
          have hOe : Kd.S k49a 72 We w.heap.size (fun k => k < B) u3 (s.take i) := by rw [hWe]; exact Kd.S_far (Kd.S_below HO.out hb4) (fun k hk => Nat.ne_of_lt hk) _
          have hM : MA We w.heap.size (fun k => B < k) x [Value.string x.f0, Value.slice A5 x.f1.length c5, Value.slice A6 x.f2.length c6, Value.slice A7 x.f3.length c7, Value.slice A8 x.f4.length c8] := ⟨fun k => wr.heap.size ≤ k, _, _, _, _, rfl, Kd.R_lower (Kd.R_mono h1e fun k hk => ⟨hk.1, Nat.not_le_of_lt hk.2⟩) hBw, Kd.R_lower (Kd.R_mono h2e fun k hk => ⟨hk.1, Nat.not_le_of_lt hk.2⟩) hBw, Kd.R_lower (Kd.R_mono h3e fun k hk => ⟨hk.1, Nat.not_le_of_lt hk.2⟩) hBw, Kd.R_lower (Kd.R_mono h4e fun k hk => ⟨Nat.lt_of_lt_of_le hBs3 hk, hk⟩) hBw⟩
          have HM := Aside0.mk hM
          have HOE := Aside0.mk hOe
          have HBE := Aside0.mk hBe2
          have he0 : We.cell? ⟨B, 0, none⟩ = some (Value.string x.f0) := (blk_cell hbE 0).trans rfl
          have he1 : We.cell? ⟨B, 1, none⟩ = some (Value.slice A5 x.f1.length c5) := (blk_cell hbE 1).trans rfl
          have he2 : We.cell? ⟨B, 2, none⟩ = some (Value.slice A6 x.f2.length c6) := (blk_cell hbE 2).trans rfl
          have he3 : We.cell? ⟨B, 3, none⟩ = some (Value.slice A7 x.f3.length c7) := (blk_cell hbE 3).trans rfl
          have he4 : We.cell? ⟨B, 4, none⟩ = some (Value.slice A8 x.f4.length c8) := (blk_cell hbE 4).trans rfl
          have hlen2 : (s.take i).length ≤ 2000000 := by rw [List.length_take]; omega
          have HTI := HT
          rw [← hWe]
          clear hM hWe hbb hv4 hb4 hx4 hx4f hbE h1e h2e h3e h4e hOe hBe2 HBX HV1 HV2 HR3 HO HBW HN4 HSZ
          generalize s.take i = pre at *
          go_wp2_with ((with_reducible refine gate_builtin (b := .append) (xs := #[.tmp 52, .tmp 54]) rfl ?_); at_builtin; refine Kd.S_append k49a (w0 := w) w.heap.size rfl (.tmp 52) (.tmp 54) 23 72 (.agg #[(.string ⟨#[]⟩), (.slice none 0 0), (.slice none 0 0), (.slice none 0 0), (.slice none 0 0)]) 112 rfl Tryz.underlying23 info72 rfl (by decide) (by omega) u3 pre x [Value.string x.f0, Value.slice A5 x.f1.length c5, Value.slice A6 x.f2.length c6, Value.slice A7 x.f3.length c7, Value.slice A8 x.f4.length c8] (fun _ => True) (fun k_ => B < k_) rfl rfl HM.out ?aQ (fun _ _ => trivial) ?aO HBE.out HBE.out.size (by omega) ?_; (case aQ => exact fun k hk => ⟨trivial, fun he => by have h9 := HOE.out; have := (Kd.S_R h9).1 k he.symm; omega⟩); (case aO => exact Kd.S_mono HOE.out (fun k hk => ⟨trivial, fun h9 => by omega⟩)); intro v1 w2 hv1 hb2 _ _)
          go_roundg gk
          case measure => omega
          case rel => exact ⟨i + 1, by omega, by first | rfl | (simp; done) | (simp; unfold wrap64; omega), ⟨by rw [HT.out]; exact hv1⟩, ⟨hb2⟩⟩
end Go.Proofs.YthgfdnffnbclpaaGreatDoor.PAll
