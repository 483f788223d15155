import Derived.Test.YthgfdnffnbclpaaDoorQV15
set_option linter.unusedVariables false
set_option linter.unusedSimpArgs false
namespace Go.Proofs.YthgfdnffnbclpaaDoor.PAll
open Go.RowKit Go.Proofs.YthgfdnffnbclpaaDoorW.PrintWords Go.Proofs.YthgfdnffnbclpaaDoorW.PrintLast Go.Proofs.YthgfdnffnbclpaaDoorW.PrintMore

/-- The rows that are not gone. -/
def leftP : Rows → List Bool → Rows
  | row :: r, g :: q => if g = true then leftP r q else row :: leftP r q
  | _, _ => []
def refsFromP (s : List S49) (d : Data) : Nat → List S49 → Option Bool
  | _, [] => some true
  | m, t :: r => (refsP s d m t.f3).bind fun b => if b = true then refsFromP s d (m + 1) r else some false
def deleteP (k : Nat) (s : List S49) (d : Data) (nm : ByteArray) (gone : List Bool) : Option (Data × Int) :=
  (dataP k s d).bind fun v =>
    if v = true then
      if findP nm 0 s < 0 then some ([], 71)
      else if gone.length = (rd_L13 d (findP nm 0 s)).length then
        (refsFromP s (d.set (findP nm 0 s).toNat (leftP (rd_L13 d (findP nm 0 s)) gone)) 0 s).bind fun b =>
          if b = true then some (d.set (findP nm 0 s).toNat (leftP (rd_L13 d (findP nm 0 s)) gone), 0) else some ([], 77)
      else some ([], 78)
    else some ([], 1)

section
variable {P : Program} {ops : Array Oper} {Q : Exit → Act → World → Prop} {rest : List Oper} {o : Oper} {a : Act} {w : World}
theorem wpList_put_run (hg : o.guard = none) (t : TypeId) (p x : Operand) (hop : o.op = .store t p x) (hN : o.dst = none) {pv u : Value} {w' : World} (hp : a.eval p = pv) (hx : a.eval x = u)
    (hrun : (Instr.storeAt t pv u).run P w = .ok () w') (hK : wpList P ops Q rest a w') : wpList P ops Q (o :: rest) a w := by
  refine wpList_plain hg fun K' hK' => ?_
  unfold Oper.wp
  simp only [execOp, hop, hp, hx, hrun, Result.andThen, Sem.run_bind]
  show K' (a.put o.dst undef) w'
  rw [hN]
  exact hK' _ _ hK
end

theorem leftP_snoc : ∀ (a : Rows) (b : List Bool) (x : List S64) (y : Bool), a.length = b.length → leftP (a ++ [x]) (b ++ [y]) = leftP a b ++ (if y = true then [] else [x])
  | [], [], x, y, _ => by cases y <;> rfl
  | [], _ :: _, _, _, h => by simp at h
  | _ :: _, [], _, _, h => by simp at h
  | a :: a2, b :: b2, x, y, h => by
    have := leftP_snoc a2 b2 x y (by simpa using h)
    show leftP (a :: (a2 ++ [x])) (b :: (b2 ++ [y])) = _
    unfold leftP
    rw [this]
    split
    · rfl
    · rfl
theorem leftP_len : ∀ (a : Rows) (b : List Bool), (leftP a b).length ≤ a.length
  | [], b => by simp [leftP]
  | a :: a2, [] => by simp [leftP]
  | a :: a2, b :: b2 => by
    have := leftP_len a2 b2
    unfold leftP
    split
    · simp; omega
    · simp; omega
theorem leftP_mem : ∀ (a : Rows) (b : List Bool), ∀ x ∈ leftP a b, x ∈ a
  | [], b, x, h => by simp [leftP] at h
  | a :: a2, [], x, h => by simp [leftP] at h
  | a :: a2, b :: b2, x, h => by
    unfold leftP at h
    split at h
    · exact List.mem_cons_of_mem _ (leftP_mem a2 b2 x h)
    · rcases List.mem_cons.1 h with rfl | h
      · exact List.mem_cons_self
      · exact List.mem_cons_of_mem _ (leftP_mem a2 b2 x h)

set_option maxHeartbeats 4000000 in
set_option maxRecDepth 100000 in
theorem delete_walk (k : Nat) (A0 : Option Addr) (c0 : Nat) (s : List S49) (A1 : Option Addr) (c1 : Nat) (d : Data) (nm : ByteArray) (A3 : Option Addr) (c3 : Nat) (gone : List Bool) (r1 : Data) (r2 : Int) (w : World)
    (hS : Kd.C k49 w A0 s.length s) (hc0 : s.length ≤ c0) (hD : Kd.C (Kd.slice 51 (Kd.slice 64 k64)) w A1 d.length d) (hc1 : d.length ≤ c1) (hG : Kd.C Kd.bool w A3 gone.length gone) (hc3 : gone.length ≤ c3)
    (hwd : wfData d) (hsd : smallData d) (hL : LaidL w) (h : deleteP k s d nm gone = some (r1, r2)) :
    Calls Tryd.prog 18 #[.slice A0 s.length c0, .slice A1 d.length c1, .string nm, .slice A3 gone.length c3] w fun e w' => ∃ (A : Option Addr) (c : Nat), e = .returned (.tuple #[.slice A r1.length c, .int .i64 r2]) ∧ r1.length ≤ c ∧ Kd.C (Kd.slice 51 (Kd.slice 64 k64)) w' A r1.length r1 ∧ Below w.heap.size w w' := by
  have HS := Aside0.mk hS
  have HD := Aside0.mk hD
  have HG := Aside0.mk hG
  have HWD := Aside0.mk hwd
  have HSD := Aside0.mk hsd
  have HB0 := Aside0.mk (Below.refl w.heap.size w)
  have HNIL : Aside0 (∀ W, Kd.C (Kd.slice 51 (Kd.slice 64 k64)) W none 0 ([] : Data)) := ⟨fun W => C_nil _ W⟩
  unfold deleteP at h
  obtain ⟨v, hv, h⟩ := Option.bind_eq_some_iff.mp h
  have HV := Aside0.mk (validData_walk k A0 c0 s A1 c1 d v w hS hc0 hD hc1 hwd hL hv)
  have HF : Aside0 (∀ W, Below w.heap.size w W → Calls Tryd.prog 30 #[.slice A0 s.length c0, .string nm] W fun e w' => e = .returned (.int .i64 (findP nm 0 s)) ∧ Below W.heap.size W w') := ⟨fun W hW => scheme_find.calls A0 c0 s nm _ W (Kd.C_below hS hW) hc0 rfl⟩
  have HH := Aside0.mk h
  have HVD := Aside0.mk hv
  clear hS hD hG hwd hsd hL h hv
  go_enter Tryd.func18, Tryd.ntmps18
  cases v with
  | false =>
    have h := HH.out
    rw [if_neg (by decide)] at h
    cases h
    go_wp2_with (go_at_call 10; refine HV.out.mono ?_; rintro e w1 ⟨rfl, hb1⟩)
    go_ret2
    exact ⟨_, _, rfl, Nat.le_refl _, HNIL.out _, hb1⟩
  | true =>
    have h := HH.out
    rw [if_pos rfl] at h
    have HLEN := Aside0.mk (dataP_len HVD.out)
    have hrange := findP_range nm s 0
    generalize findP nm 0 s = n at *
    by_cases q : n < 0
    · rw [if_pos q] at h
      cases h
      have d1 : decide (n < 0) = true := decide_eq_true q
      clear q hrange HH
      go_wp2_with (first | (go_at_call 10; refine HV.out.mono ?_; rintro e w1 ⟨rfl, hb1⟩) | (go_at_call 30; refine (HF.out _ hb1).mono ?_; rintro e w2 ⟨rfl, hb2⟩))
      go_ret2
      exact ⟨_, _, rfl, Nat.le_refl _, HNIL.out _, below_step hb1 hb2⟩
    rw [if_neg q] at h
    have d1 : decide (n < 0) = false := decide_eq_false q
    have hn0 : 0 ≤ n := by omega
    have hns : n < (s.length : Int) := by omega
    have hnd : n < (d.length : Int) := by have := HLEN.out; omega
    clear q hrange HH
    have HP := Aside0.mk h
    clear h
    obtain ⟨ad, Ar, cr, hAd, hx, hcr, hCr⟩ := at_L13 HD.out n hn0 hnd
    cases hAd
    generalize hold : rd_L13 d n = old at *
    have HX : Aside0 (∀ W, Below w.heap.size w W → W.cell? (ad.add n.toNat) = some (.slice Ar old.length cr)) := ⟨fun W hB => (hB.cell (World.block_lt_of_cell? w _ hx)).trans hx⟩
    have HOL : Aside0 (old.length ≤ 2000000) := ⟨by rw [← hold]; unfold rd_L13; have hl : n.toNat < d.length := by omega
                                                    rw [List.getD_eq_getElem?_getD, List.getElem?_eq_getElem hl]; exact (HSD.out.2 _ (List.getElem_mem hl)).1⟩
    have HOLD := Aside0.mk hold
    clear hx hcr hCr hold
    by_cases q : gone.length = old.length
    case neg =>
      have hp := HP.out
      rw [if_neg q] at hp
      cases hp
      have qi : ¬ ((gone.length : Int) = (old.length : Int)) := by omega
      have d2 : ((gone.length : Int) == (old.length : Int)) = false := beq_eq_false_iff_ne.mpr qi
      have d3 : ((gone.length : Int) != (old.length : Int)) = true := bne_iff_ne.mpr qi
      clear q qi HP
      go_wp2_with (first | (go_at_call 10; refine HV.out.mono ?_; rintro e w1 ⟨rfl, hb1⟩) | (go_at_call 30; refine (HF.out _ hb1).mono ?_; rintro e w2 ⟨rfl, hb2⟩; have x0 := HX.out _ (below_step hb1 hb2)))
      go_ret2
      first
        | exact ⟨_, ⟨_, rfl⟩, HNIL.out _, below_step hb1 hb2⟩
        | exact ⟨_, _, rfl, Nat.le_refl _, HNIL.out _, below_step hb1 hb2⟩
    have hp := HP.out
    rw [if_pos q] at hp
    have HP1 := Aside0.mk hp
    have qi : ((gone.length : Int) = (old.length : Int)) := by omega
    have d2 : ((gone.length : Int) == (old.length : Int)) = true := beq_iff_eq.mpr qi
    have d3 : ((gone.length : Int) != (old.length : Int)) = false := by rw [bne, d2]; rfl
    have HQ := Aside0.mk q
    have HCD : Aside0 (∀ W, Below w.heap.size w W → Calls Tryd.prog 34 #[.slice (some ad) d.length c1] W fun e w' => ∃ v0_ : Value, e = .returned (v0_) ∧ Kd.S (Kd.slice 51 (Kd.slice 64 k64)) 32 w' W.heap.size (fun _ => True) v0_ d ∧ Below W.heap.size W w') := ⟨fun W hW => copiedData_walk (some ad) c1 d W (Kd.C_below HD.out hW) hc1 HSD.out⟩
    have HDP : Aside0 (0 < d.length) := ⟨by omega⟩
    clear q qi hp HP
    have HMK : Aside0 (∀ W, ∃ W2, (Instr.makeSlice 32 (.int .i64 0) (.int .i64 gone.length)).run Tryd.prog W = .ok (.slice (some ⟨W.heap.size, 0, none⟩) 0 gone.length) W2 ∧ W2.ownsRow W.heap.size 51 1 (.slice (some ⟨W.heap.size, 0, none⟩) 0 gone.length) 0 [] ∧ W.grownBy W2 none) := ⟨fun W => by
      obtain ⟨i0, hi0, hz0, hz1, hz2⟩ := info_parts (P := Tryd.prog) (e := 51) (z := .slice none 0 0) (size := 1) (bytes := 24) (by kernel_rfl)
      have h1 := HQ.out
      have h2 := HOL.out
      exact run_make_own W W.heap.size 32 51 i0 _ 1 Tryd.underlying32 hi0 hz0 hz1 .i64 .i64 gone.length (by rw [hz2]; omega) (by unfold maxLen; omega) (Nat.le_refl _)⟩
    go_wp2_with (first | (go_at_call 10; refine HV.out.mono ?_; rintro e w1 ⟨rfl, hb1⟩) | (go_at_call 30; refine (HF.out _ hb1).mono ?_; rintro e w2 ⟨rfl, hb2⟩; have x0 := HX.out _ (below_step hb1 hb2)) | (go_at_call 34; refine (HCD.out _ (below_step hb1 hb2)).mono ?_; rintro e W1 ⟨v, rfl, ho, hb3⟩; obtain ⟨g, cap, ev, hg1, hg2, gcells, hgc⟩ := Kd.S_form ho HDP.out; subst ev; obtain ⟨oki, cc, hcl, hM, hcc, hoki, hH⟩ := Kd.S_lend ho ([] : Rows) n hn0 hnd; obtain ⟨vn, rfl, hRn⟩ := hM; rw [show List.getD d n.toNat [] = old from HOLD.out] at hRn; obtain ⟨An, cn, rfl⟩ := Kd.R_slice hRn; have hcell0 := hcc 0 _ rfl; have hcell : W1.cell? ⟨g, n.toNat, none⟩ = some (.slice An old.length cn) := (by simpa [Kd.slice] using hcell0); obtain ⟨W2, hmk, hown, hgr⟩ := HMK.out W1; have HBM := Aside0.mk ((Below.refl W1.heap.size W1).grown hgr (Nat.le_refl _) (fun j hj => by cases hj)); have hcell2 := (HBM.out.cell (World.block_lt_of_cell? W1 _ hcell)).trans hcell))
    have HBW1 := Aside0.mk (below_step (below_step hb1 hb2) hb3)
    have HW2S : Aside0 (w2.heap.size ≤ W1.heap.size) := ⟨hb3.size⟩
    have HWS : Aside0 (w.heap.size ≤ w2.heap.size) := ⟨(below_step hb1 hb2).size⟩
    have HRN := Aside0.mk hRn
    have HGC := Aside0.mk hgc
    have HG1 := Aside0.mk hg1
    have HG2 := Aside0.mk hg2
    have HHH := Aside0.mk (Kd.H_widen hH)
    have HCE := Aside0.mk hcell
    have HO0 : Aside0 ((Kd.slice 64 k64).R 51 W2 w2.heap.size (fun k => oki k ∨ W1.heap.size ≤ k) (.slice (some ⟨W1.heap.size, 0, none⟩) 0 gone.length) []) := ⟨fun k hk => Or.inr (by simp [Value.ownBlock] at hk; omega), [], own_weaken hown hb3.size, Reps.none _ _⟩
    clear hRn hgc hg1 hg2 hH hcell hcell0 hcell2 hmk hown hgr hcc hoki ho hb1 hb2 hb3 x0 d2 d3 d1 HCD HDP HMK HV HF
    go_loopg [12, 43] old.length (fun gk v12 v43 wx => ∃ (i : Nat), i + gk = old.length ∧ v43 = .int .i64 i ∧ Aside0 ((Kd.slice 64 k64).R 51 wx w2.heap.size (fun k => oki k ∨ W1.heap.size ≤ k) v12 (leftP (old.take i) (gone.take i))) ∧ Aside0 (∀ k, v12.ownBlock = some k → W1.heap.size ≤ k) ∧ Aside0 (Below W1.heap.size W1 wx))
    case atStart => exact ⟨0, by omega, rfl, by simpa [leftP] using HO0, ⟨fun k hk => by simp [Value.ownBlock] at hk; omega⟩, HBM⟩
    case round =>
      clear HO0 HBM
      obtain ⟨i, hi, rfl, HO, HOB, HB⟩ := hrel
      cases gk with
      | succ gk =>
        have hlt : i < old.length := by omega
        have hltg : i < gone.length := by have := HQ.out; omega
        have hii : (i : Int) < (old.length : Int) := by omega
        have hig : (i : Int) < (gone.length : Int) := by omega
        have hi0 : (0 : Int) ≤ (i : Int) := by omega
        obtain ⟨gn, capn, en, _⟩ := Kd.R_form HRN.out (by omega)
        cases en
        obtain ⟨cc, hcl, hM, hcc⟩ := Kd.R_getA HRN.out ([] : List S64) (i : Int) hi0 hii
        obtain ⟨vr, rfl, hRr⟩ := hM
        obtain ⟨Ai, ci, rfl⟩ := Kd.R_slice hRr
        have hcell := hcc 0 _ rfl
        have hgd : List.getD old (i : Int).toNat [] = old[i] := by simp [List.getD, hlt]
        rw [hgd] at hcell hRr
        have hcell2 : wr.cell? ⟨gn, i, none⟩ = some (.slice Ai old[i].length ci) := by
          have h1 : W1.cell? ⟨gn, i, none⟩ = some (.slice Ai old[i].length ci) := by rw [add_plain] at hcell; simpa [Kd.slice] using hcell
          exact (HB.out.cell (World.block_lt_of_cell? W1 _ h1)).trans h1
        obtain ⟨adg, hAg, hbg⟩ := Kd.at_bool HG.out (i : Int) hi0 hig
        cases hAg
        rw [Int.toNat_natCast] at hbg
        have hgb : rdOf false gone (i : Int) = gone[i] := by unfold rdOf; simp [List.getD, hltg]
        rw [hgb] at hbg
        have hBw := below_step HBW1.out HB.out
        replace hbg := (hBw.cell (World.block_lt_of_cell? w _ hbg)).trans hbg
        have HTL : Aside0 (leftP (old.take (i + 1)) (gone.take (i + 1)) = leftP (old.take i) (gone.take i) ++ (if gone[i] = true then [] else [old[i]])) := ⟨by
          rw [take_snoc hlt, take_snoc hltg]
          exact leftP_snoc _ _ _ _ (by rw [List.length_take, List.length_take]; omega)⟩
        have HPL : Aside0 ((leftP (old.take i) (gone.take i)).length ≤ 2000000) := ⟨by
          have := leftP_len (old.take i) (gone.take i)
          have h2 := HOL.out
          rw [List.length_take] at this
          omega⟩
        have HM := Aside0.mk (Kd.M_row hRr)
        clear hcell hcc hRr hgd hgb hBw
        generalize old[i] = row at *
        generalize leftP (old.take i) (gone.take i) = pre at *
        cases hgi : gone[i] with
        | true =>
          rw [hgi] at hbg HTL
          rw [if_pos rfl, List.append_nil] at HTL
          clear hgi
          go_wp2
          go_roundg gk
          case measure => omega
          case rel => exact ⟨i + 1, by omega, by first | rfl | (simp; done) | (have := HOL.out; simp; unfold wrap64; omega), ⟨by rw [HTL.out]; exact HO.out⟩, HOB, HB⟩
        | false =>
          rw [hgi] at hbg HTL
          rw [if_neg (by decide)] at HTL
          clear hgi
          have hp_ : (Kd.slice 64 k64).M wr w2.heap.size (fun k => oki k ∧ k < W1.heap.size) row [.slice Ai row.length ci] := (Kd.slice 64 k64).M_mono (fun k hk => ⟨hk.1.1, hk.2.2.1⟩) (Kd.M_below ((Kd.slice 64 k64).M_bound HM.out) HB.out)
          have HPP := Aside0.mk hp_
          have hl24 : (pre.length + 1) * 24 ≤ 140737488355328 := by have := HPL.out; omega
          have HBS : Aside0 (W1.heap.size ≤ wr.heap.size) := ⟨HB.out.size⟩
          clear hp_
          go_wp2_with ((with_reducible refine gate_builtin (b := .append) (xs := #[.tmp 53, .tmp 55]) rfl ?_); at_builtin; refine Kd.R_append (Kd.slice 64 k64) (w0 := wr) w2.heap.size rfl (.tmp 53) (.tmp 55) 32 51 (.slice none 0 0) 24 rfl Tryd.underlying32 info51 rfl (by decide) (by omega) u12 pre row [.slice Ai row.length ci] (fun k => oki k ∨ W1.heap.size ≤ k) (fun k => oki k ∧ k < W1.heap.size) rfl rfl HPP.out (fun k hk => ⟨Or.inl hk.1, fun he => by have := HOB.out k he.symm; omega⟩) (fun k hk => Or.inr (Nat.le_trans HBS.out hk)) HO.out (Below.refl _ _) (Nat.le_trans HW2S.out HBS.out) hl24 ?_; intro v1 w3 hv1 _ hg3 hat3)
          go_roundg gk
          case measure => omega
          case rel => exact ⟨i + 1, by omega, by first | rfl | (simp; done) | (have := HOL.out; simp; unfold wrap64; omega), ⟨by rw [HTL.out]; exact hv1⟩, ⟨fun k hk => by
            rcases hat3 with h | ⟨b, h, hle⟩
            · exact HOB.out k (h ▸ hk)
            · rw [h] at hk; injection hk with hk; have := HBS.out; omega⟩, ⟨HB.out.grown hg3 HBS.out (fun j hj => HOB.out j hj)⟩⟩
      | zero =>
        have e1 : old.take i = old := List.take_of_length_le (by omega)
        have e2 : gone.take i = gone := List.take_of_length_le (by have := HQ.out; omega)
        rw [e1, e2] at HO
        have hii : ¬ (i : Int) < (old.length : Int) := by omega
        obtain ⟨b, hb, hp⟩ := Option.bind_eq_some_iff.mp HP1.out
        have hwfl : ∀ row ∈ leftP old gone, ∀ x ∈ row, wfV x := by
          intro row hr
          have hl : n.toNat < d.length := by omega
          have : old ∈ d := by rw [← HOLD.out]; unfold rd_L13; rw [List.getD_eq_getElem?_getD, List.getElem?_eq_getElem hl]; exact List.getElem_mem hl
          exact HWD.out _ this row (leftP_mem _ _ row hr)
        have HWL := Aside0.mk hwfl
        generalize leftP old gone = left at *
        have HHB := Aside0.mk hb
        have HP2 := Aside0.mk hp
        obtain ⟨A5, c5, e5⟩ := Kd.R_slice HO.out
        subst e5
        clear e1 e2 hb hp hwfl HP1
        have hgc : wr.heap[g]? = some (.cells gcells 32 (0, 0)) := (HB.out.block g HG2.out).trans HGC.out
        have hfit : n.toNat + 1 ≤ gcells.size := by
          have h2 := (blk_cell HGC.out n.toNat).symm.trans HCE.out
          have := (Array.getElem?_eq_some_iff.1 h2).1
          omega
        have hS4 := (Kd.S_seg0 (Kd.H_below HHH.out HB.out) hn0 hnd (seg := [.slice A5 left.length c5]) (j := 0) (Nat.le_refl _) (x' := left) (okp := fun k => oki k ∨ W1.heap.size ≤ k) (Kd.M_row HO.out) (fun k hk => hk.elim Or.inl (fun h => Or.inr ⟨trivial, h⟩))).1
        have hoff : n.toNat * (Kd.slice 51 (Kd.slice 64 k64)).sz + 0 = n.toNat := by simp [Kd.slice]
        rw [hoff] at hS4
        have HW4 : Aside0 (Below w.heap.size w (wr.setCells g n.toNat [.slice A5 left.length c5])) := ⟨Go.below_setCells (Nat.le_trans HWS.out HG1.out) _ _ _ (below_step HBW1.out HB.out)⟩
        have hrun := run_store_run (P := Tryd.prog) 32 (.slice A5 left.length c5) [.slice A5 left.length c5] hgc rfl (by kernel_rfl) (by simpa using hfit) (by simp [Value.oneCell'])
        obtain ⟨W4, hW4⟩ : ∃ W4, W4 = wr.setCells g n.toNat [.slice A5 left.length c5] := ⟨_, rfl⟩
        rw [← hW4] at hS4 HW4 hrun
        have HRUN := Aside0.mk hrun
        have HO4 := Aside0.mk (Kd.S_reads' hS4)
        clear hS4 hoff hrun hW4 hgc hfit
        go_wp2_with ((with_reducible refine gate_ (.store 32 (.tmp 61) (.tmp 60)) rfl ?_); refine wpList_put_run rfl 32 (.tmp 61) (.tmp 60) rfl rfl rfl rfl HRUN.out ?_)
        have hol : (d.set n.toNat left).length = d.length := List.length_set
        have HOL2 := Aside0.mk hol
        have HWF : Aside0 (∀ rows ∈ d.set n.toNat left, ∀ row ∈ rows, ∀ x ∈ row, wfV x) := ⟨by
          intro rs hr
          rcases List.mem_or_eq_of_mem_set hr with h1 | h1
          · exact HWD.out rs h1
          · rw [h1]; exact HWL.out⟩
        have HRF : Aside0 (∀ (m : Nat) (b : Bool) (W : World), m < s.length → Below W4.heap.size W4 W → refsP s (d.set n.toNat left) m (rd_T49 s m).f3 = some b → Calls Tryd.prog 29 #[.slice A0 s.length c0, .slice (some ⟨g, 0, none⟩) d.length cap, .int .i64 m] W fun e w' => e = .returned (.bool b) ∧ Below W.heap.size W w') := ⟨fun m b W hm hW hf => by
          have h1 := refsHold_walk A0 c0 s (some ⟨g, 0, none⟩) cap (d.set n.toNat left) m b W (Kd.C_below HS.out (below_step HW4.out hW)) hc0 (Kd.C_below (hol ▸ HO4.out.2.2) hW) (hol ▸ HO4.out.2.1) HWF.out (by omega) (by omega) (by rw [hol]; have := HLEN.out; omega) hf
          rw [hol] at h1
          exact h1⟩
        have HB40 := Aside0.mk (Below.refl W4.heap.size W4)
        have HC4 : Aside0 (d.length ≤ cap ∧ Kd.C (Kd.slice 51 (Kd.slice 64 k64)) W4 (some ⟨g, 0, none⟩) (d.set n.toNat left).length (d.set n.toNat left)) := ⟨⟨HO4.out.2.1, hol ▸ HO4.out.2.2⟩⟩
        clear hol hii hi HWF HO HOB HB HO4 HRUN
        go_loopg [64] s.length (fun gk v64 wx => ∃ (m : Nat), m + gk = s.length ∧ v64 = .int .i64 m ∧ Aside0 (Below W4.heap.size W4 wx) ∧ Aside0 (refsFromP s (d.set n.toNat left) 0 s = refsFromP s (d.set n.toNat left) m (s.drop m)))
        case atStart => exact ⟨0, by omega, rfl, HB40, ⟨by simp⟩⟩
        case round =>
          clear HB40
          obtain ⟨m, hm, rfl, HB, HE⟩ := hrel
          rename_i gk1
          cases gk with
          | zero =>
            have e : s.drop m = [] := List.drop_eq_nil_of_le (by omega)
            have he := HE.out
            rw [e, refsFromP] at he
            have hbt : b = true := by have := HHB.out; rw [he] at this; exact (Option.some.inj this).symm
            subst hbt
            have hp := HP2.out
            rw [if_pos rfl] at hp
            have hii : ¬ (m : Int) < (s.length : Int) := by omega
            cases hp
            clear he HE HHB HP2 e HRF
            go_wp2
            go_ret2
            exact ⟨some ⟨g, 0, none⟩, cap, by first | rfl | (rw [HOL2.out]; rfl), HOL2.out ▸ HC4.out.1, Kd.C_below (HOL2.out ▸ HC4.out.2) HB.out, below_step HW4.out HB.out⟩
          | succ gk =>
            have hlt : m < s.length := by omega
            have hii : (m : Int) < (s.length : Int) := by omega
            have hdr : s.drop m = s[m] :: s.drop (m + 1) := List.drop_eq_getElem_cons hlt
            have hrd : rd_T49 s (m : Int) = s[m] := by unfold rd_T49; simp [List.getD, hlt]
            have he := HE.out
            rw [hdr, refsFromP] at he
            have hb2 := HHB.out
            rw [he] at hb2
            obtain ⟨b1, hb1, hb3⟩ := Option.bind_eq_some_iff.mp hb2
            have HN := Aside0.mk (HRF.out m b1 wr hlt HB.out (by rw [hrd]; exact hb1))
            have HE2 : Aside0 (refsFromP s (d.set n.toNat left) 0 s = if b1 = true then refsFromP s (d.set n.toNat left) (m + 1) (s.drop (m + 1)) else some false) := ⟨by rw [he, hb1]; rfl⟩
            have HB3 := Aside0.mk hb3
            clear he hb2 hb1 hb3 HE hdr hrd HRF
            cases b1 with
            | false =>
              have hb3 := HB3.out
              rw [if_neg (by decide)] at hb3
              obtain rfl := Option.some.inj hb3
              have hp := HP2.out
              rw [if_neg (by decide)] at hp
              cases hp
              clear hb3 HHB HP2 HE2 HB3
              go_wp2_with (go_at_call 29; refine HN.out.mono ?_; rintro e w6 ⟨rfl, hb6⟩)
              go_ret2
              first
                | exact ⟨_, ⟨_, rfl⟩, HNIL.out _, below_step HW4.out (below_step HB.out hb6)⟩
                | exact ⟨_, _, rfl, Nat.le_refl _, HNIL.out _, below_step HW4.out (below_step HB.out hb6)⟩
            | true =>
              rw [if_pos rfl] at HE2
              go_wp2_with (go_at_call 29; refine HN.out.mono ?_; rintro e w6 ⟨rfl, hb6⟩)
              go_roundg gk
              case measure => omega
              case rel => exact ⟨m + 1, by omega, by first | rfl | (simp; done) | (have := HS.out.2.1; simp; unfold wrap64; omega), ⟨below_step HB.out hb6⟩, HE2⟩
end Go.Proofs.YthgfdnffnbclpaaDoor.PAll
namespace Go.Proofs.YthgfdnffnbclpaaDoor.PAll
open Go.RowKit Go.Proofs.YthgfdnffnbclpaaDoorW.PrintWords Go.Proofs.YthgfdnffnbclpaaDoorW.PrintLast Go.Proofs.YthgfdnffnbclpaaDoorW.PrintMore
attribute [local go_sem] max2_int min2_int max_two min_two max_three min_three max_four min_four   -- for this text's walks alone
/-! ### jointerlaw07_small: function 31 -/
def jointerlaw07_small.f  : Option ((List (S49)) × (List (List (List (S64))))) := some ((([(⟨(⟨#[116]⟩ : ByteArray), (([(⟨(⟨#[97]⟩ : ByteArray), 1, false, 0, 9⟩ : S78), (⟨(⟨#[98]⟩ : ByteArray), 2, false, 0, 3⟩ : S78)] : List (S78))), (([(([0] : List Int))] : List (List Int))), ([] : List (S75)), ([] : List Int)⟩ : S49), (⟨(⟨#[117]⟩ : ByteArray), (([(⟨(⟨#[97]⟩ : ByteArray), 1, true, 0, 9⟩ : S78)] : List (S78))), ([] : List (List Int)), (([(⟨(([0] : List Int)), 0, 0⟩ : S75)] : List (S75))), ([] : List Int)⟩ : S49)] : List (S49))), (([(([(([(⟨1, 1, (⟨#[]⟩ : ByteArray)⟩ : S64), (⟨0, 0, (⟨#[]⟩ : ByteArray)⟩ : S64)] : List (S64)))] : List (List (S64)))), (([(([(⟨1, 1, (⟨#[]⟩ : ByteArray)⟩ : S64)] : List (S64)))] : List (List (S64))))] : List (List (List (S64))))))
set_option maxHeartbeats 8000000 in
set_option maxRecDepth 100000 in
theorem jointerlaw07_small.calls  (r1 : List (S49)) (r2 : List (List (List (S64)))) (w : World) (h : jointerlaw07_small.f  = some (r1, r2)) :
    Calls Tryd.prog 31 #[] w fun e w' => ∃ v0_ v1_ : Value, e = .returned (.tuple #[v0_, v1_]) ∧ Kd.N k49 49 w' w.heap.size (fun k_ => (w.heap.size ≤ k_) ∧ some k_ ≠ (v1_ : Value).ownBlock) v0_ r1 ∧ Kd.N (Kd.slice 51 (Kd.slice 64 k64)) 32 w' w.heap.size (fun k_ => (w.heap.size ≤ k_) ∧ some k_ ≠ (v0_ : Value).ownBlock) v1_ r2 ∧ Below w.heap.size w w' := by
  have hu78 := Tryd.underlying78
  have hu49 := Tryd.underlying49
  have hu75 := Tryd.underlying75
  have hu64 := Tryd.underlying64
  have HB := Aside0.mk (Below.refl w.heap.size w)
  have H : (some ((([(⟨(⟨#[116]⟩ : ByteArray), (([(⟨(⟨#[97]⟩ : ByteArray), 1, false, 0, 9⟩ : S78), (⟨(⟨#[98]⟩ : ByteArray), 2, false, 0, 3⟩ : S78)] : List (S78))), (([(([0] : List Int))] : List (List Int))), ([] : List (S75)), ([] : List Int)⟩ : S49), (⟨(⟨#[117]⟩ : ByteArray), (([(⟨(⟨#[97]⟩ : ByteArray), 1, true, 0, 9⟩ : S78)] : List (S78))), ([] : List (List Int)), (([(⟨(([0] : List Int)), 0, 0⟩ : S75)] : List (S75))), ([] : List Int)⟩ : S49)] : List (S49))), (([(([(([(⟨1, 1, (⟨#[]⟩ : ByteArray)⟩ : S64), (⟨0, 0, (⟨#[]⟩ : ByteArray)⟩ : S64)] : List (S64)))] : List (List (S64)))), (([(([(⟨1, 1, (⟨#[]⟩ : ByteArray)⟩ : S64)] : List (S64)))] : List (List (S64))))] : List (List (List (S64))))))) = some (r1, r2) := h
  clear h
  obtain ⟨y342, hy342⟩ : ∃ y_ : List (S78), y_ = (([(⟨(⟨#[97]⟩ : ByteArray), 1, false, 0, 9⟩ : S78), (⟨(⟨#[98]⟩ : ByteArray), 2, false, 0, 3⟩ : S78)] : List (S78))) := ⟨_, rfl⟩
  replace H : (some ((([(⟨(⟨#[116]⟩ : ByteArray), y342, (([(([0] : List Int))] : List (List Int))), ([] : List (S75)), ([] : List Int)⟩ : S49), (⟨(⟨#[117]⟩ : ByteArray), (([(⟨(⟨#[97]⟩ : ByteArray), 1, true, 0, 9⟩ : S78)] : List (S78))), ([] : List (List Int)), (([(⟨(([0] : List Int)), 0, 0⟩ : S75)] : List (S75))), ([] : List Int)⟩ : S49)] : List (S49))), (([(([(([(⟨1, 1, (⟨#[]⟩ : ByteArray)⟩ : S64), (⟨0, 0, (⟨#[]⟩ : ByteArray)⟩ : S64)] : List (S64)))] : List (List (S64)))), (([(([(⟨1, 1, (⟨#[]⟩ : ByteArray)⟩ : S64)] : List (S64)))] : List (List (S64))))] : List (List (List (S64))))))) = some (r1, r2) := by first | (rw [hy342]; with_reducible exact H) | (have H2_ := (Option.bind_some _ _).symm.trans H; rw [hy342]; with_reducible exact H2_) | (have H2_ := (Option.bind_some _ _).symm.trans H; with_reducible exact H2_) | with_reducible exact H | (rw [hy342]; exact H) | exact H
  have Ny342 := Aside0.mk hy342
  clear hy342
  obtain ⟨y345, hy345⟩ : ∃ y_ : List (S78), y_ = (([(⟨(⟨#[97]⟩ : ByteArray), 1, true, 0, 9⟩ : S78)] : List (S78))) := ⟨_, rfl⟩
  replace H : (some ((([(⟨(⟨#[116]⟩ : ByteArray), y342, (([(([0] : List Int))] : List (List Int))), ([] : List (S75)), ([] : List Int)⟩ : S49), (⟨(⟨#[117]⟩ : ByteArray), y345, ([] : List (List Int)), (([(⟨(([0] : List Int)), 0, 0⟩ : S75)] : List (S75))), ([] : List Int)⟩ : S49)] : List (S49))), (([(([(([(⟨1, 1, (⟨#[]⟩ : ByteArray)⟩ : S64), (⟨0, 0, (⟨#[]⟩ : ByteArray)⟩ : S64)] : List (S64)))] : List (List (S64)))), (([(([(⟨1, 1, (⟨#[]⟩ : ByteArray)⟩ : S64)] : List (S64)))] : List (List (S64))))] : List (List (List (S64))))))) = some (r1, r2) := by first | (rw [hy345]; with_reducible exact H) | (have H2_ := (Option.bind_some _ _).symm.trans H; rw [hy345]; with_reducible exact H2_) | (have H2_ := (Option.bind_some _ _).symm.trans H; with_reducible exact H2_) | with_reducible exact H | (rw [hy345]; exact H) | exact H
  have Ny345 := Aside0.mk hy345
  clear hy345
  obtain ⟨y348, hy348⟩ : ∃ y_ : List Int, y_ = (([0] : List Int)) := ⟨_, rfl⟩
  replace H : (some ((([(⟨(⟨#[116]⟩ : ByteArray), y342, (([y348] : List (List Int))), ([] : List (S75)), ([] : List Int)⟩ : S49), (⟨(⟨#[117]⟩ : ByteArray), y345, ([] : List (List Int)), (([(⟨(([0] : List Int)), 0, 0⟩ : S75)] : List (S75))), ([] : List Int)⟩ : S49)] : List (S49))), (([(([(([(⟨1, 1, (⟨#[]⟩ : ByteArray)⟩ : S64), (⟨0, 0, (⟨#[]⟩ : ByteArray)⟩ : S64)] : List (S64)))] : List (List (S64)))), (([(([(⟨1, 1, (⟨#[]⟩ : ByteArray)⟩ : S64)] : List (S64)))] : List (List (S64))))] : List (List (List (S64))))))) = some (r1, r2) := by first | (rw [hy348]; with_reducible exact H) | (have H2_ := (Option.bind_some _ _).symm.trans H; rw [hy348]; with_reducible exact H2_) | (have H2_ := (Option.bind_some _ _).symm.trans H; with_reducible exact H2_) | with_reducible exact H | (rw [hy348]; exact H) | exact H
  have Ny348 := Aside0.mk hy348
  clear hy348
  obtain ⟨y351, hy351⟩ : ∃ y_ : List (List Int), y_ = (([y348] : List (List Int))) := ⟨_, rfl⟩
  replace H : (some ((([(⟨(⟨#[116]⟩ : ByteArray), y342, y351, ([] : List (S75)), ([] : List Int)⟩ : S49), (⟨(⟨#[117]⟩ : ByteArray), y345, ([] : List (List Int)), (([(⟨(([0] : List Int)), 0, 0⟩ : S75)] : List (S75))), ([] : List Int)⟩ : S49)] : List (S49))), (([(([(([(⟨1, 1, (⟨#[]⟩ : ByteArray)⟩ : S64), (⟨0, 0, (⟨#[]⟩ : ByteArray)⟩ : S64)] : List (S64)))] : List (List (S64)))), (([(([(⟨1, 1, (⟨#[]⟩ : ByteArray)⟩ : S64)] : List (S64)))] : List (List (S64))))] : List (List (List (S64))))))) = some (r1, r2) := by first | (rw [hy351]; with_reducible exact H) | (have H2_ := (Option.bind_some _ _).symm.trans H; rw [hy351]; with_reducible exact H2_) | (have H2_ := (Option.bind_some _ _).symm.trans H; with_reducible exact H2_) | with_reducible exact H | (rw [hy351]; exact H) | exact H
  have Ny351 := Aside0.mk hy351
  clear hy351
  obtain ⟨y354, hy354⟩ : ∃ y_ : List Int, y_ = (([0] : List Int)) := ⟨_, rfl⟩
  replace H : (some ((([(⟨(⟨#[116]⟩ : ByteArray), y342, y351, ([] : List (S75)), ([] : List Int)⟩ : S49), (⟨(⟨#[117]⟩ : ByteArray), y345, ([] : List (List Int)), (([(⟨y354, 0, 0⟩ : S75)] : List (S75))), ([] : List Int)⟩ : S49)] : List (S49))), (([(([(([(⟨1, 1, (⟨#[]⟩ : ByteArray)⟩ : S64), (⟨0, 0, (⟨#[]⟩ : ByteArray)⟩ : S64)] : List (S64)))] : List (List (S64)))), (([(([(⟨1, 1, (⟨#[]⟩ : ByteArray)⟩ : S64)] : List (S64)))] : List (List (S64))))] : List (List (List (S64))))))) = some (r1, r2) := by first | (rw [hy354]; with_reducible exact H) | (have H2_ := (Option.bind_some _ _).symm.trans H; rw [hy354]; with_reducible exact H2_) | (have H2_ := (Option.bind_some _ _).symm.trans H; with_reducible exact H2_) | with_reducible exact H | (rw [hy354]; exact H) | exact H
  have Ny354 := Aside0.mk hy354
  clear hy354
  obtain ⟨y357, hy357⟩ : ∃ y_ : List (S75), y_ = (([(⟨y354, 0, 0⟩ : S75)] : List (S75))) := ⟨_, rfl⟩
  replace H : (some ((([(⟨(⟨#[116]⟩ : ByteArray), y342, y351, ([] : List (S75)), ([] : List Int)⟩ : S49), (⟨(⟨#[117]⟩ : ByteArray), y345, ([] : List (List Int)), y357, ([] : List Int)⟩ : S49)] : List (S49))), (([(([(([(⟨1, 1, (⟨#[]⟩ : ByteArray)⟩ : S64), (⟨0, 0, (⟨#[]⟩ : ByteArray)⟩ : S64)] : List (S64)))] : List (List (S64)))), (([(([(⟨1, 1, (⟨#[]⟩ : ByteArray)⟩ : S64)] : List (S64)))] : List (List (S64))))] : List (List (List (S64))))))) = some (r1, r2) := by first | (rw [hy357]; with_reducible exact H) | (have H2_ := (Option.bind_some _ _).symm.trans H; rw [hy357]; with_reducible exact H2_) | (have H2_ := (Option.bind_some _ _).symm.trans H; with_reducible exact H2_) | with_reducible exact H | (rw [hy357]; exact H) | exact H
  have Ny357 := Aside0.mk hy357
  clear hy357
  obtain ⟨y360, hy360⟩ : ∃ y_ : List (S49), y_ = (([(⟨(⟨#[116]⟩ : ByteArray), y342, y351, ([] : List (S75)), ([] : List Int)⟩ : S49), (⟨(⟨#[117]⟩ : ByteArray), y345, ([] : List (List Int)), y357, ([] : List Int)⟩ : S49)] : List (S49))) := ⟨_, rfl⟩
  replace H : (some (y360, (([(([(([(⟨1, 1, (⟨#[]⟩ : ByteArray)⟩ : S64), (⟨0, 0, (⟨#[]⟩ : ByteArray)⟩ : S64)] : List (S64)))] : List (List (S64)))), (([(([(⟨1, 1, (⟨#[]⟩ : ByteArray)⟩ : S64)] : List (S64)))] : List (List (S64))))] : List (List (List (S64))))))) = some (r1, r2) := by first | (rw [hy360]; with_reducible exact H) | (have H2_ := (Option.bind_some _ _).symm.trans H; rw [hy360]; with_reducible exact H2_) | (have H2_ := (Option.bind_some _ _).symm.trans H; with_reducible exact H2_) | with_reducible exact H | (rw [hy360]; exact H) | exact H
  have Ny360 := Aside0.mk hy360
  clear hy360
  obtain ⟨y363, hy363⟩ : ∃ y_ : List (S64), y_ = (([(⟨1, 1, (⟨#[]⟩ : ByteArray)⟩ : S64), (⟨0, 0, (⟨#[]⟩ : ByteArray)⟩ : S64)] : List (S64))) := ⟨_, rfl⟩
  replace H : (some (y360, (([(([y363] : List (List (S64)))), (([(([(⟨1, 1, (⟨#[]⟩ : ByteArray)⟩ : S64)] : List (S64)))] : List (List (S64))))] : List (List (List (S64))))))) = some (r1, r2) := by first | (rw [hy363]; with_reducible exact H) | (have H2_ := (Option.bind_some _ _).symm.trans H; rw [hy363]; with_reducible exact H2_) | (have H2_ := (Option.bind_some _ _).symm.trans H; with_reducible exact H2_) | with_reducible exact H | (rw [hy363]; exact H) | exact H
  have Ny363 := Aside0.mk hy363
  clear hy363
  obtain ⟨y366, hy366⟩ : ∃ y_ : List (S64), y_ = (([(⟨1, 1, (⟨#[]⟩ : ByteArray)⟩ : S64)] : List (S64))) := ⟨_, rfl⟩
  replace H : (some (y360, (([(([y363] : List (List (S64)))), (([y366] : List (List (S64))))] : List (List (List (S64))))))) = some (r1, r2) := by first | (rw [hy366]; with_reducible exact H) | (have H2_ := (Option.bind_some _ _).symm.trans H; rw [hy366]; with_reducible exact H2_) | (have H2_ := (Option.bind_some _ _).symm.trans H; with_reducible exact H2_) | with_reducible exact H | (rw [hy366]; exact H) | exact H
  have Ny366 := Aside0.mk hy366
  clear hy366
  obtain ⟨y369, hy369⟩ : ∃ y_ : List (List (S64)), y_ = (([y363] : List (List (S64)))) := ⟨_, rfl⟩
  replace H : (some (y360, (([y369, (([y366] : List (List (S64))))] : List (List (List (S64))))))) = some (r1, r2) := by first | (rw [hy369]; with_reducible exact H) | (have H2_ := (Option.bind_some _ _).symm.trans H; rw [hy369]; with_reducible exact H2_) | (have H2_ := (Option.bind_some _ _).symm.trans H; with_reducible exact H2_) | with_reducible exact H | (rw [hy369]; exact H) | exact H
  have Ny369 := Aside0.mk hy369
  clear hy369
  obtain ⟨y372, hy372⟩ : ∃ y_ : List (List (S64)), y_ = (([y366] : List (List (S64)))) := ⟨_, rfl⟩
  replace H : (some (y360, (([y369, y372] : List (List (List (S64))))))) = some (r1, r2) := by first | (rw [hy372]; with_reducible exact H) | (have H2_ := (Option.bind_some _ _).symm.trans H; rw [hy372]; with_reducible exact H2_) | (have H2_ := (Option.bind_some _ _).symm.trans H; with_reducible exact H2_) | with_reducible exact H | (rw [hy372]; exact H) | exact H
  have Ny372 := Aside0.mk hy372
  clear hy372
  obtain ⟨y375, hy375⟩ : ∃ y_ : List (List (List (S64))), y_ = (([y369, y372] : List (List (List (S64))))) := ⟨_, rfl⟩
  replace H : (some (y360, y375)) = some (r1, r2) := by first | (rw [hy375]; with_reducible exact H) | (have H2_ := (Option.bind_some _ _).symm.trans H; rw [hy375]; with_reducible exact H2_) | (have H2_ := (Option.bind_some _ _).symm.trans H; with_reducible exact H2_) | with_reducible exact H | (rw [hy375]; exact H) | exact H
  have Ny375 := Aside0.mk hy375
  clear hy375
  simp only [Option.some.injEq, Prod.mk.injEq] at H
  obtain ⟨rfl, rfl⟩ := H
  go_enter Tryd.func31, Tryd.ntmps31
  go_wp2_with (first | ((with_reducible refine gate_dst (N := 9) rfl ?_); refine Kd.R_lit k78 _ 78 ?hg (N := 9) ?hd (xs := ([(⟨(⟨#[97]⟩ : ByteArray), 1, false, 0, 9⟩ : S78), (⟨(⟨#[98]⟩ : ByteArray), 2, false, 0, 3⟩ : S78)] : List (S78))) (inner := [.string (⟨#[97]⟩ : ByteArray), .int .u8 1, .bool false, .int .i64 0, .int .i64 9, .string (⟨#[98]⟩ : ByteArray), .int .u8 2, .bool false, .int .i64 0, .int .i64 3]) (ok := fun _ => True) (okp := fun _ => True) ?hr ?hp (fun _ hk => hk) trivial (Below.refl _ _) (Nat.le_refl _) (by simp) ?_; (case hd => rfl); (case hg => rfl); (case hr => first | (go_simp; done) | (go_simp; rfl)); (case hp => exact (Reps.c5 (show Kd.M k78 _ _ _ (⟨(⟨#[97]⟩ : ByteArray), 1, false, 0, 9⟩ : S78) [.string (⟨#[97]⟩ : ByteArray), .int .u8 1, .bool false, .int .i64 0, .int .i64 9] from (k78_mkM _ _ _ (⟨(⟨#[97]⟩ : ByteArray), 1, false, 0, 9⟩ : S78) )) (Reps.c5 (show Kd.M k78 _ _ _ (⟨(⟨#[98]⟩ : ByteArray), 2, false, 0, 3⟩ : S78) [.string (⟨#[98]⟩ : ByteArray), .int .u8 2, .bool false, .int .i64 0, .int .i64 3] from (k78_mkM _ _ _ (⟨(⟨#[98]⟩ : ByteArray), 2, false, 0, 3⟩ : S78) )) (Reps.none _ _)))); intro v343 w1 ho2 hb hg_ hnew_; clear hg_ hnew_; (first | rw [← Ny342.out] at ho2 | (simp only [Int.reduceToNat] at ho2; rw [← Ny342.out] at ho2)); have n0_ := Aside0.mk (Kd.R_lower (Kd.R_newM (M := fun k_ => (w.heap.size ≤ k_)) ho2 (below_size (by repeat (first | (with_reducible first | exact HB.out | apply below_alloc | apply pw_below_drewN | apply below_drew1) | exact HB.out))) (fun k_ h_ => h_)) (below_size (by repeat (first | (with_reducible first | exact HB.out | apply below_alloc | apply pw_below_drewN | apply below_drew1) | exact HB.out)))); have n1_ := Aside0.mk (below_step (by repeat (first | (with_reducible first | exact HB.out | apply below_alloc | apply pw_below_drewN | apply below_drew1) | exact HB.out)) hb); clear HB; have HO344 := n0_; have HB := n1_; clear n0_ n1_; clear hb ho2) | ((with_reducible refine gate_dst (N := 11) rfl ?_); refine Kd.R_lit k78 _ 78 ?hg (N := 11) ?hd (xs := ([(⟨(⟨#[97]⟩ : ByteArray), 1, true, 0, 9⟩ : S78)] : List (S78))) (inner := [.string (⟨#[97]⟩ : ByteArray), .int .u8 1, .bool true, .int .i64 0, .int .i64 9]) (ok := fun _ => True) (okp := fun _ => True) ?hr ?hp (fun _ hk => hk) trivial (Below.refl _ _) (Nat.le_refl _) (by simp) ?_; (case hd => rfl); (case hg => rfl); (case hr => first | (go_simp; done) | (go_simp; rfl)); (case hp => exact (Reps.c5 (show Kd.M k78 _ _ _ (⟨(⟨#[97]⟩ : ByteArray), 1, true, 0, 9⟩ : S78) [.string (⟨#[97]⟩ : ByteArray), .int .u8 1, .bool true, .int .i64 0, .int .i64 9] from (k78_mkM _ _ _ (⟨(⟨#[97]⟩ : ByteArray), 1, true, 0, 9⟩ : S78) )) (Reps.none _ _))); intro v346 w3 ho4 hb hg_ hnew_; clear hg_ hnew_; (first | rw [← Ny345.out] at ho4 | (simp only [Int.reduceToNat] at ho4; rw [← Ny345.out] at ho4)); have n0_ := Aside0.mk (Kd.R_elder' (by (with_reducible repeat (first | apply Kd.R_alloc | apply Kd.R_drewN | apply Kd.R_drew)); exact HO344.out) (Kd.R_base ho4) hb); have n1_ := Aside0.mk (Kd.R_lower (Kd.R_new' (Kd.R_newM (M := fun k_ => (w.heap.size ≤ k_)) ho4 (below_size (by repeat (first | (with_reducible first | exact HB.out | apply below_alloc | apply pw_below_drewN | apply below_drew1) | exact HB.out))) (fun k_ h_ => h_)) (Kd.R_lt (by (with_reducible repeat (first | apply Kd.R_alloc | apply Kd.R_drewN | apply Kd.R_drew)); exact HO344.out))) (below_size (by repeat (first | (with_reducible first | exact HB.out | apply below_alloc | apply pw_below_drewN | apply below_drew1) | exact HB.out)))); have n2_ := Aside0.mk (below_step (by repeat (first | (with_reducible first | exact HB.out | apply below_alloc | apply pw_below_drewN | apply below_drew1) | exact HB.out)) hb); clear HO344; clear HB; have HO344 := n0_; have HO347 := n1_; have HB := n2_; clear n0_ n1_ n2_; clear hb ho4) | ((with_reducible refine gate_dst (N := 13) rfl ?_); refine Kd.R_lit (Kd.int .i64) _ 3 ?hg (N := 13) ?hd (xs := ([0] : List Int)) (inner := [.int .i64 0]) (ok := fun _ => True) (okp := fun _ => True) ?hr ?hp (fun _ hk => hk) trivial (Below.refl _ _) (Nat.le_refl _) (by simp) ?_; (case hd => rfl); (case hg => rfl); (case hr => first | (go_simp; done) | (go_simp; rfl)); (case hp => exact (Reps.one (show Kd.M (Kd.int .i64) _ _ _ 0 [.int .i64 0] from rfl) (Reps.none _ _))); intro v349 w5 ho6 hb hg_ hnew_; clear hg_ hnew_; (first | rw [← Ny348.out] at ho6 | (simp only [Int.reduceToNat] at ho6; rw [← Ny348.out] at ho6)); have n0_ := Aside0.mk (Kd.R_below (by (with_reducible repeat (first | apply Kd.R_alloc | apply Kd.R_drewN | apply Kd.R_drew)); exact HO344.out) hb); have n1_ := Aside0.mk (Kd.R_below (by (with_reducible repeat (first | apply Kd.R_alloc | apply Kd.R_drewN | apply Kd.R_drew)); exact HO347.out) hb); have n2_ := Aside0.mk (Kd.R_lower (Kd.R_newM (M := fun k_ => (w.heap.size ≤ k_)) ho6 (below_size (by repeat (first | (with_reducible first | exact HB.out | apply below_alloc | apply pw_below_drewN | apply below_drew1) | exact HB.out))) (fun k_ h_ => h_)) (below_size (by repeat (first | (with_reducible first | exact HB.out | apply below_alloc | apply pw_below_drewN | apply below_drew1) | exact HB.out)))); have n3_ := Aside0.mk (below_step (by repeat (first | (with_reducible first | exact HB.out | apply below_alloc | apply pw_below_drewN | apply below_drew1) | exact HB.out)) hb); clear HO344; clear HO347; clear HB; have HO344 := n0_; have HO347 := n1_; have HO350 := n2_; have HB := n3_; clear n0_ n1_ n2_ n3_; clear hb ho6; obtain ⟨Ao7, co7, eo7⟩ := Kd.R_slice HO350.out; subst eo7) | ((with_reducible refine gate_dst (N := 14) rfl ?_); refine Kd.N_lit (Kd.slice 3 (Kd.int .i64)) _ 47 ?hg (N' := 14) ?hd (xs := ([y348] : List (List Int))) (inner := [.slice Ao7 y348.length co7]) (ok := (fun k_ => (w.heap.size ≤ k_) ∧ some k_ ≠ (v343 : Value).ownBlock ∧ some k_ ≠ (v346 : Value).ownBlock)) (okp := (fun k_ => (w.heap.size ≤ k_) ∧ some k_ ≠ (v343 : Value).ownBlock ∧ some k_ ≠ (v346 : Value).ownBlock)) ?hr ?hp (fun _ hk => hk) ((show ∀ k_, w5.heap.size ≤ k_ → (fun k_ => (w.heap.size ≤ k_) ∧ some k_ ≠ (v343 : Value).ownBlock ∧ some k_ ≠ (v346 : Value).ownBlock) k_ from fun k_ hk => ⟨(Nat.le_trans (below_size (by repeat (first | (with_reducible first | exact HB.out | apply below_alloc | apply pw_below_drewN | apply below_drew1) | exact HB.out))) hk), Kd.fresh' (Kd.R_lt (by (with_reducible repeat (first | apply Kd.R_alloc | apply Kd.R_drewN | apply Kd.R_drew)); exact HO344.out)) k_ hk, Kd.fresh' (Kd.R_lt (by (with_reducible repeat (first | apply Kd.R_alloc | apply Kd.R_drewN | apply Kd.R_drew)); exact HO347.out)) k_ hk⟩) _ (Nat.le_refl _)) (Below.refl _ _) (Nat.le_refl _) (by simp) ?_; (case hd => rfl); (case hg => rfl); (case hr => first | (go_simp; done) | (go_simp; rfl)); (case hp => exact (Reps.one (show Kd.FK (Kd.slice 3 (Kd.int .i64)) _ _ y348 [.slice Ao7 y348.length co7] from (Kd.FK_slice_mk (Kd.R_reads' (Kd.R_mono (ok' := (fun k_ => (w.heap.size ≤ k_) ∧ some k_ ≠ (v343 : Value).ownBlock ∧ some k_ ≠ (v346 : Value).ownBlock)) (Kd.R_apart' (Kd.R_apart' (HO350.out) (Kd.R_typed HO344.out) (by decide)) (Kd.R_typed HO347.out) (by decide)) (fun k_ hk => ⟨hk.1.1.1, ⟨hk.1.2, hk.2⟩⟩))).2.1 (Kd.R_F (Kd.R_mono (ok' := (fun k_ => (w.heap.size ≤ k_) ∧ some k_ ≠ (v343 : Value).ownBlock ∧ some k_ ≠ (v346 : Value).ownBlock)) (Kd.R_apart' (Kd.R_apart' (HO350.out) (Kd.R_typed HO344.out) (by decide)) (Kd.R_typed HO347.out) (by decide)) (fun k_ hk => ⟨hk.1.1.1, ⟨hk.1.2, hk.2⟩⟩))))) (Reps.none _ _))); intro v352 w8 ho9 hb hg_ hnew_; clear hg_ hnew_; (first | rw [← Ny351.out] at ho9 | (simp only [Int.reduceToNat] at ho9; rw [← Ny351.out] at ho9)); have n0_ := Aside0.mk (Kd.R_below (by (with_reducible repeat (first | apply Kd.R_alloc | apply Kd.R_drewN | apply Kd.R_drew)); exact HO344.out) hb); have n1_ := Aside0.mk (Kd.R_below (by (with_reducible repeat (first | apply Kd.R_alloc | apply Kd.R_drewN | apply Kd.R_drew)); exact HO347.out) hb); have n2_ := Aside0.mk (Kd.N_lower ho9 (below_size (by repeat (first | (with_reducible first | exact HB.out | apply below_alloc | apply pw_below_drewN | apply below_drew1) | exact HB.out)))); have n3_ := Aside0.mk (below_step (by repeat (first | (with_reducible first | exact HB.out | apply below_alloc | apply pw_below_drewN | apply below_drew1) | exact HB.out)) hb); clear HO344; clear HO347; clear HB; clear HO350; have HO344 := n0_; have HO347 := n1_; have HO353 := n2_; have HB := n3_; clear n0_ n1_ n2_ n3_; clear hb ho9; obtain ⟨Ao10, co10, eo10⟩ := Kd.N_slice HO353.out; subst eo10; obtain ⟨Ao11, co11, eo11⟩ := Kd.R_slice HO344.out; subst eo11) | ((with_reducible refine gate_dst (N := 17) rfl ?_); refine Kd.R_lit (Kd.int .i64) _ 3 ?hg (N := 17) ?hd (xs := ([0] : List Int)) (inner := [.int .i64 0]) (ok := fun _ => True) (okp := fun _ => True) ?hr ?hp (fun _ hk => hk) trivial (Below.refl _ _) (Nat.le_refl _) (by simp) ?_; (case hd => rfl); (case hg => rfl); (case hr => first | (go_simp; done) | (go_simp; rfl)); (case hp => exact (Reps.one (show Kd.M (Kd.int .i64) _ _ _ 0 [.int .i64 0] from rfl) (Reps.none _ _))); intro v355 w12 ho13 hb hg_ hnew_; clear hg_ hnew_; (first | rw [← Ny354.out] at ho13 | (simp only [Int.reduceToNat] at ho13; rw [← Ny354.out] at ho13)); have n0_ := Aside0.mk (Kd.R_below (by (with_reducible repeat (first | apply Kd.R_alloc | apply Kd.R_drewN | apply Kd.R_drew)); exact HO344.out) hb); have n1_ := Aside0.mk (Kd.R_below (by (with_reducible repeat (first | apply Kd.R_alloc | apply Kd.R_drewN | apply Kd.R_drew)); exact HO347.out) hb); have n2_ := Aside0.mk (Kd.N_elder' (by (with_reducible repeat (first | apply Kd.N_alloc | apply Kd.N_drewN | apply Kd.N_drew)); exact HO353.out) (Kd.R_base ho13) hb); have n3_ := Aside0.mk (Kd.R_lower (Kd.R_newM (M := fun k_ => (w.heap.size ≤ k_)) ho13 (below_size (by repeat (first | (with_reducible first | exact HB.out | apply below_alloc | apply pw_below_drewN | apply below_drew1) | exact HB.out))) (fun k_ h_ => h_)) (below_size (by repeat (first | (with_reducible first | exact HB.out | apply below_alloc | apply pw_below_drewN | apply below_drew1) | exact HB.out)))); have n4_ := Aside0.mk (below_step (by repeat (first | (with_reducible first | exact HB.out | apply below_alloc | apply pw_below_drewN | apply below_drew1) | exact HB.out)) hb); clear HO344; clear HO347; clear HO353; clear HB; have HO344 := n0_; have HO347 := n1_; have HO353 := n2_; have HO356 := n3_; have HB := n4_; clear n0_ n1_ n2_ n3_ n4_; clear hb ho13; obtain ⟨Ao14, co14, eo14⟩ := Kd.R_slice HO356.out; subst eo14) | ((with_reducible refine gate_dst (N := 19) rfl ?_); refine Kd.N_lit k75 _ 75 ?hg (N' := 19) ?hd (xs := ([(⟨y354, 0, 0⟩ : S75)] : List (S75))) (inner := [.slice Ao14 y354.length co14, .int .i64 0, .int .i64 0]) (ok := (fun k_ => (w.heap.size ≤ k_) ∧ some k_ ≠ (.slice Ao11 y342.length co11 : Value).ownBlock ∧ some k_ ≠ (v346 : Value).ownBlock ∧ some k_ ≠ (.slice Ao10 y351.length co10 : Value).ownBlock)) (okp := (fun k_ => (w.heap.size ≤ k_) ∧ some k_ ≠ (.slice Ao11 y342.length co11 : Value).ownBlock ∧ some k_ ≠ (v346 : Value).ownBlock ∧ some k_ ≠ (.slice Ao10 y351.length co10 : Value).ownBlock)) ?hr ?hp (fun _ hk => hk) ((show ∀ k_, w12.heap.size ≤ k_ → (fun k_ => (w.heap.size ≤ k_) ∧ some k_ ≠ (.slice Ao11 y342.length co11 : Value).ownBlock ∧ some k_ ≠ (v346 : Value).ownBlock ∧ some k_ ≠ (.slice Ao10 y351.length co10 : Value).ownBlock) k_ from fun k_ hk => ⟨(Nat.le_trans (below_size (by repeat (first | (with_reducible first | exact HB.out | apply below_alloc | apply pw_below_drewN | apply below_drew1) | exact HB.out))) hk), Kd.fresh' (Kd.R_lt (by (with_reducible repeat (first | apply Kd.R_alloc | apply Kd.R_drewN | apply Kd.R_drew)); exact HO344.out)) k_ hk, Kd.fresh' (Kd.R_lt (by (with_reducible repeat (first | apply Kd.R_alloc | apply Kd.R_drewN | apply Kd.R_drew)); exact HO347.out)) k_ hk, Kd.fresh' (Kd.N_lt (by (with_reducible repeat (first | apply Kd.N_alloc | apply Kd.N_drewN | apply Kd.N_drew)); exact HO353.out)) k_ hk⟩) _ (Nat.le_refl _)) (Below.refl _ _) (Nat.le_refl _) (by simp) ?_; (case hd => rfl); (case hg => rfl); (case hr => first | (go_simp; done) | (go_simp; rfl)); (case hp => exact (Reps.c3 (show Kd.FK k75 _ _ (⟨y354, 0, 0⟩ : S75) [.slice Ao14 y354.length co14, .int .i64 0, .int .i64 0] from (k75_mkF _ _ (⟨y354, 0, 0⟩ : S75) (Kd.R_reads' (Kd.R_mono (ok' := (fun k_ => (w.heap.size ≤ k_) ∧ some k_ ≠ (.slice Ao11 y342.length co11 : Value).ownBlock ∧ some k_ ≠ (v346 : Value).ownBlock ∧ some k_ ≠ (.slice Ao10 y351.length co10 : Value).ownBlock)) (Kd.R_apart' (Kd.R_apart' (Kd.R_apart' (HO356.out) (Kd.R_typed HO344.out) (by decide)) (Kd.R_typed HO347.out) (by decide)) (Kd.N_typed HO353.out) (by decide)) (fun k_ hk => ⟨hk.1.1.1.1, ⟨hk.1.1.2, ⟨hk.1.2, hk.2⟩⟩⟩))).2.1 (Kd.R_F (Kd.R_mono (ok' := (fun k_ => (w.heap.size ≤ k_) ∧ some k_ ≠ (.slice Ao11 y342.length co11 : Value).ownBlock ∧ some k_ ≠ (v346 : Value).ownBlock ∧ some k_ ≠ (.slice Ao10 y351.length co10 : Value).ownBlock)) (Kd.R_apart' (Kd.R_apart' (Kd.R_apart' (HO356.out) (Kd.R_typed HO344.out) (by decide)) (Kd.R_typed HO347.out) (by decide)) (Kd.N_typed HO353.out) (by decide)) (fun k_ hk => ⟨hk.1.1.1.1, ⟨hk.1.1.2, ⟨hk.1.2, hk.2⟩⟩⟩))))) (Reps.none _ _))); intro v358 w15 ho16 hb hg_ hnew_; clear hg_ hnew_; (first | rw [← Ny357.out] at ho16 | (simp only [Int.reduceToNat] at ho16; rw [← Ny357.out] at ho16)); have n0_ := Aside0.mk (Kd.R_below (by (with_reducible repeat (first | apply Kd.R_alloc | apply Kd.R_drewN | apply Kd.R_drew)); exact HO344.out) hb); have n1_ := Aside0.mk (Kd.R_below (by (with_reducible repeat (first | apply Kd.R_alloc | apply Kd.R_drewN | apply Kd.R_drew)); exact HO347.out) hb); have n2_ := Aside0.mk (Kd.N_elder' (by (with_reducible repeat (first | apply Kd.N_alloc | apply Kd.N_drewN | apply Kd.N_drew)); exact HO353.out) (Kd.N_base ho16) hb); have n3_ := Aside0.mk (Kd.N_lower ho16 (below_size (by repeat (first | (with_reducible first | exact HB.out | apply below_alloc | apply pw_below_drewN | apply below_drew1) | exact HB.out)))); have n4_ := Aside0.mk (below_step (by repeat (first | (with_reducible first | exact HB.out | apply below_alloc | apply pw_below_drewN | apply below_drew1) | exact HB.out)) hb); clear HO344; clear HO347; clear HO353; clear HB; clear HO356; have HO344 := n0_; have HO347 := n1_; have HO353 := n2_; have HO359 := n3_; have HB := n4_; clear n0_ n1_ n2_ n3_ n4_; clear hb ho16; obtain ⟨Ao17, co17, eo17⟩ := Kd.N_slice HO359.out; subst eo17; obtain ⟨Ao18, co18, eo18⟩ := Kd.R_slice HO347.out; subst eo18) | ((with_reducible refine gate_dst (N := 21) rfl ?_); refine Kd.N_lit k49 _ 49 ?hg (N' := 21) ?hd (xs := ([(⟨(⟨#[116]⟩ : ByteArray), y342, y351, ([] : List (S75)), ([] : List Int)⟩ : S49), (⟨(⟨#[117]⟩ : ByteArray), y345, ([] : List (List Int)), y357, ([] : List Int)⟩ : S49)] : List (S49))) (inner := [.string (⟨#[116]⟩ : ByteArray), .slice Ao11 y342.length co11, .slice Ao10 y351.length co10, .slice none 0 0, .slice none 0 0, .string (⟨#[117]⟩ : ByteArray), .slice Ao18 y345.length co18, .slice none 0 0, .slice Ao17 y357.length co17, .slice none 0 0]) (ok := (fun k_ => (w.heap.size ≤ k_))) (okp := (fun k_ => (w.heap.size ≤ k_))) ?hr ?hp (fun _ hk => hk) ((show ∀ k_, w15.heap.size ≤ k_ → (fun k_ => (w.heap.size ≤ k_)) k_ from fun k_ hk => (Nat.le_trans (below_size (by repeat (first | (with_reducible first | exact HB.out | apply below_alloc | apply pw_below_drewN | apply below_drew1) | exact HB.out))) hk)) _ (Nat.le_refl _)) (Below.refl _ _) (Nat.le_refl _) (by simp) ?_; (case hd => rfl); (case hg => rfl); (case hr => first | (go_simp; done) | (go_simp; rfl)); (case hp => exact (Reps.c5 (show Kd.FK k49 _ _ (⟨(⟨#[116]⟩ : ByteArray), y342, y351, ([] : List (S75)), ([] : List Int)⟩ : S49) [.string (⟨#[116]⟩ : ByteArray), .slice Ao11 y342.length co11, .slice Ao10 y351.length co10, .slice none 0 0, .slice none 0 0] from (k49_mkF _ _ (⟨(⟨#[116]⟩ : ByteArray), y342, y351, ([] : List (S75)), ([] : List Int)⟩ : S49) (Kd.R_reads' (Kd.R_mono (ok' := (fun k_ => (w.heap.size ≤ k_))) (HO344.out) (fun k_ hk => hk.1.1))).2.1 (Kd.R_F (Kd.R_mono (ok' := (fun k_ => (w.heap.size ≤ k_))) (HO344.out) (fun k_ hk => hk.1.1))) (Kd.N_reads' (Kd.N_mono (ok' := (fun k_ => (w.heap.size ≤ k_))) (HO353.out) (fun k_ hk => hk.1.1.1))).2.1 (Kd.N_F (Kd.N_mono (ok' := (fun k_ => (w.heap.size ≤ k_))) (HO353.out) (fun k_ hk => hk.1.1.1))) (Nat.le_refl _) (Kd.F_nil _ _ _) (Nat.le_refl _) (Kd.F_nil _ _ _))) (Reps.c5 (show Kd.FK k49 _ _ (⟨(⟨#[117]⟩ : ByteArray), y345, ([] : List (List Int)), y357, ([] : List Int)⟩ : S49) [.string (⟨#[117]⟩ : ByteArray), .slice Ao18 y345.length co18, .slice none 0 0, .slice Ao17 y357.length co17, .slice none 0 0] from (k49_mkF _ _ (⟨(⟨#[117]⟩ : ByteArray), y345, ([] : List (List Int)), y357, ([] : List Int)⟩ : S49) (Kd.R_reads' (Kd.R_mono (ok' := (fun k_ => (w.heap.size ≤ k_))) (HO347.out) (fun k_ hk => hk.1.1))).2.1 (Kd.R_F (Kd.R_mono (ok' := (fun k_ => (w.heap.size ≤ k_))) (HO347.out) (fun k_ hk => hk.1.1))) (Nat.le_refl _) (Kd.F_nil _ _ _) (Kd.N_reads' (Kd.N_mono (ok' := (fun k_ => (w.heap.size ≤ k_))) (HO359.out) (fun k_ hk => hk.1))).2.1 (Kd.N_F (Kd.N_mono (ok' := (fun k_ => (w.heap.size ≤ k_))) (HO359.out) (fun k_ hk => hk.1))) (Nat.le_refl _) (Kd.F_nil _ _ _))) (Reps.none _ _)))); intro v361 w19 ho20 hb hg_ hnew_; clear hg_ hnew_; (first | rw [← Ny360.out] at ho20 | (simp only [Int.reduceToNat] at ho20; rw [← Ny360.out] at ho20)); have n0_ := Aside0.mk (Kd.N_lower ho20 (below_size (by repeat (first | (with_reducible first | exact HB.out | apply below_alloc | apply pw_below_drewN | apply below_drew1) | exact HB.out)))); have n1_ := Aside0.mk (below_step (by repeat (first | (with_reducible first | exact HB.out | apply below_alloc | apply pw_below_drewN | apply below_drew1) | exact HB.out)) hb); clear HB; clear HO344; clear HO347; clear HO353; clear HO359; have HO362 := n0_; have HB := n1_; clear n0_ n1_; clear hb ho20) | ((with_reducible refine gate_dst (N := 24) rfl ?_); refine Kd.R_lit k64 _ 64 ?hg (N := 24) ?hd (xs := ([(⟨1, 1, (⟨#[]⟩ : ByteArray)⟩ : S64), (⟨0, 0, (⟨#[]⟩ : ByteArray)⟩ : S64)] : List (S64))) (inner := [.int .u8 1, .int .i64 1, .string (⟨#[]⟩ : ByteArray), .int .u8 0, .int .i64 0, .string (⟨#[]⟩ : ByteArray)]) (ok := fun _ => True) (okp := fun _ => True) ?hr ?hp (fun _ hk => hk) trivial (Below.refl _ _) (Nat.le_refl _) (by simp) ?_; (case hd => rfl); (case hg => rfl); (case hr => first | (go_simp; done) | (go_simp; rfl)); (case hp => exact (Reps.c3 (show Kd.M k64 _ _ _ (⟨1, 1, (⟨#[]⟩ : ByteArray)⟩ : S64) [.int .u8 1, .int .i64 1, .string (⟨#[]⟩ : ByteArray)] from (k64_mkM _ _ _ (⟨1, 1, (⟨#[]⟩ : ByteArray)⟩ : S64) )) (Reps.c3 (show Kd.M k64 _ _ _ (⟨0, 0, (⟨#[]⟩ : ByteArray)⟩ : S64) [.int .u8 0, .int .i64 0, .string (⟨#[]⟩ : ByteArray)] from (k64_mkM _ _ _ (⟨0, 0, (⟨#[]⟩ : ByteArray)⟩ : S64) )) (Reps.none _ _)))); intro v364 w21 ho22 hb hg_ hnew_; clear hg_ hnew_; (first | rw [← Ny363.out] at ho22 | (simp only [Int.reduceToNat] at ho22; rw [← Ny363.out] at ho22)); have n0_ := Aside0.mk (Kd.N_elder' (by (with_reducible repeat (first | apply Kd.N_alloc | apply Kd.N_drewN | apply Kd.N_drew)); exact HO362.out) (Kd.R_base ho22) hb); have n1_ := Aside0.mk (Kd.R_lower (Kd.R_newM (M := fun k_ => (w.heap.size ≤ k_)) ho22 (below_size (by repeat (first | (with_reducible first | exact HB.out | apply below_alloc | apply pw_below_drewN | apply below_drew1) | exact HB.out))) (fun k_ h_ => h_)) (below_size (by repeat (first | (with_reducible first | exact HB.out | apply below_alloc | apply pw_below_drewN | apply below_drew1) | exact HB.out)))); have n2_ := Aside0.mk (below_step (by repeat (first | (with_reducible first | exact HB.out | apply below_alloc | apply pw_below_drewN | apply below_drew1) | exact HB.out)) hb); clear HO362; clear HB; have HO362 := n0_; have HO365 := n1_; have HB := n2_; clear n0_ n1_ n2_; clear hb ho22) | ((with_reducible refine gate_dst (N := 26) rfl ?_); refine Kd.R_lit k64 _ 64 ?hg (N := 26) ?hd (xs := ([(⟨1, 1, (⟨#[]⟩ : ByteArray)⟩ : S64)] : List (S64))) (inner := [.int .u8 1, .int .i64 1, .string (⟨#[]⟩ : ByteArray)]) (ok := fun _ => True) (okp := fun _ => True) ?hr ?hp (fun _ hk => hk) trivial (Below.refl _ _) (Nat.le_refl _) (by simp) ?_; (case hd => rfl); (case hg => rfl); (case hr => first | (go_simp; done) | (go_simp; rfl)); (case hp => exact (Reps.c3 (show Kd.M k64 _ _ _ (⟨1, 1, (⟨#[]⟩ : ByteArray)⟩ : S64) [.int .u8 1, .int .i64 1, .string (⟨#[]⟩ : ByteArray)] from (k64_mkM _ _ _ (⟨1, 1, (⟨#[]⟩ : ByteArray)⟩ : S64) )) (Reps.none _ _))); intro v367 w23 ho24 hb hg_ hnew_; clear hg_ hnew_; (first | rw [← Ny366.out] at ho24 | (simp only [Int.reduceToNat] at ho24; rw [← Ny366.out] at ho24)); have n0_ := Aside0.mk (Kd.N_elder' (by (with_reducible repeat (first | apply Kd.N_alloc | apply Kd.N_drewN | apply Kd.N_drew)); exact HO362.out) (Kd.R_base ho24) hb); have n1_ := Aside0.mk (Kd.R_elder' (by (with_reducible repeat (first | apply Kd.R_alloc | apply Kd.R_drewN | apply Kd.R_drew)); exact HO365.out) (Kd.R_base ho24) hb); have n2_ := Aside0.mk (Kd.R_lower (Kd.R_new' (Kd.R_newM (M := fun k_ => (w.heap.size ≤ k_)) ho24 (below_size (by repeat (first | (with_reducible first | exact HB.out | apply below_alloc | apply pw_below_drewN | apply below_drew1) | exact HB.out))) (fun k_ h_ => h_)) (Kd.R_lt (by (with_reducible repeat (first | apply Kd.R_alloc | apply Kd.R_drewN | apply Kd.R_drew)); exact HO365.out))) (below_size (by repeat (first | (with_reducible first | exact HB.out | apply below_alloc | apply pw_below_drewN | apply below_drew1) | exact HB.out)))); have n3_ := Aside0.mk (below_step (by repeat (first | (with_reducible first | exact HB.out | apply below_alloc | apply pw_below_drewN | apply below_drew1) | exact HB.out)) hb); clear HO362; clear HO365; clear HB; have HO362 := n0_; have HO365 := n1_; have HO368 := n2_; have HB := n3_; clear n0_ n1_ n2_ n3_; clear hb ho24; obtain ⟨Ao25, co25, eo25⟩ := Kd.R_slice HO365.out; subst eo25) | ((with_reducible refine gate_dst (N := 29) rfl ?_); refine Kd.N_lit (Kd.slice 64 k64) _ 51 ?hg (N' := 29) ?hd (xs := ([y363] : List (List (S64)))) (inner := [.slice Ao25 y363.length co25]) (ok := (fun k_ => (w.heap.size ≤ k_) ∧ some k_ ≠ (v361 : Value).ownBlock ∧ some k_ ≠ (v367 : Value).ownBlock)) (okp := (fun k_ => (w.heap.size ≤ k_) ∧ some k_ ≠ (v361 : Value).ownBlock ∧ some k_ ≠ (v367 : Value).ownBlock)) ?hr ?hp (fun _ hk => hk) ((show ∀ k_, w23.heap.size ≤ k_ → (fun k_ => (w.heap.size ≤ k_) ∧ some k_ ≠ (v361 : Value).ownBlock ∧ some k_ ≠ (v367 : Value).ownBlock) k_ from fun k_ hk => ⟨(Nat.le_trans (below_size (by repeat (first | (with_reducible first | exact HB.out | apply below_alloc | apply pw_below_drewN | apply below_drew1) | exact HB.out))) hk), Kd.fresh' (Kd.N_lt (by (with_reducible repeat (first | apply Kd.N_alloc | apply Kd.N_drewN | apply Kd.N_drew)); exact HO362.out)) k_ hk, Kd.fresh' (Kd.R_lt (by (with_reducible repeat (first | apply Kd.R_alloc | apply Kd.R_drewN | apply Kd.R_drew)); exact HO368.out)) k_ hk⟩) _ (Nat.le_refl _)) (Below.refl _ _) (Nat.le_refl _) (by simp) ?_; (case hd => rfl); (case hg => rfl); (case hr => first | (go_simp; done) | (go_simp; rfl)); (case hp => exact (Reps.one (show Kd.FK (Kd.slice 64 k64) _ _ y363 [.slice Ao25 y363.length co25] from (Kd.FK_slice_mk (Kd.R_reads' (Kd.R_mono (ok' := (fun k_ => (w.heap.size ≤ k_) ∧ some k_ ≠ (v361 : Value).ownBlock ∧ some k_ ≠ (v367 : Value).ownBlock)) (Kd.R_apart' (HO365.out) (Kd.N_typed HO362.out) (by decide)) (fun k_ hk => ⟨hk.1.1.1, ⟨hk.2, hk.1.2⟩⟩))).2.1 (Kd.R_F (Kd.R_mono (ok' := (fun k_ => (w.heap.size ≤ k_) ∧ some k_ ≠ (v361 : Value).ownBlock ∧ some k_ ≠ (v367 : Value).ownBlock)) (Kd.R_apart' (HO365.out) (Kd.N_typed HO362.out) (by decide)) (fun k_ hk => ⟨hk.1.1.1, ⟨hk.2, hk.1.2⟩⟩))))) (Reps.none _ _))); intro v370 w26 ho27 hb hg_ hnew_; clear hg_ hnew_; (first | rw [← Ny369.out] at ho27 | (simp only [Int.reduceToNat] at ho27; rw [← Ny369.out] at ho27)); have n0_ := Aside0.mk (Kd.N_elder' (by (with_reducible repeat (first | apply Kd.N_alloc | apply Kd.N_drewN | apply Kd.N_drew)); exact HO362.out) (Kd.N_base ho27) hb); have n1_ := Aside0.mk (Kd.R_below (by (with_reducible repeat (first | apply Kd.R_alloc | apply Kd.R_drewN | apply Kd.R_drew)); exact HO368.out) hb); have n2_ := Aside0.mk (Kd.N_lower ho27 (below_size (by repeat (first | (with_reducible first | exact HB.out | apply below_alloc | apply pw_below_drewN | apply below_drew1) | exact HB.out)))); have n3_ := Aside0.mk (below_step (by repeat (first | (with_reducible first | exact HB.out | apply below_alloc | apply pw_below_drewN | apply below_drew1) | exact HB.out)) hb); clear HO362; clear HO368; clear HB; clear HO365; have HO362 := n0_; have HO368 := n1_; have HO371 := n2_; have HB := n3_; clear n0_ n1_ n2_ n3_; clear hb ho27; obtain ⟨Ao28, co28, eo28⟩ := Kd.R_slice HO368.out; subst eo28) | ((with_reducible refine gate_dst (N := 31) rfl ?_); refine Kd.N_lit (Kd.slice 64 k64) _ 51 ?hg (N' := 31) ?hd (xs := ([y366] : List (List (S64)))) (inner := [.slice Ao28 y366.length co28]) (ok := (fun k_ => (w.heap.size ≤ k_) ∧ some k_ ≠ (v361 : Value).ownBlock ∧ some k_ ≠ (v370 : Value).ownBlock)) (okp := (fun k_ => (w.heap.size ≤ k_) ∧ some k_ ≠ (v361 : Value).ownBlock ∧ some k_ ≠ (v370 : Value).ownBlock)) ?hr ?hp (fun _ hk => hk) ((show ∀ k_, w26.heap.size ≤ k_ → (fun k_ => (w.heap.size ≤ k_) ∧ some k_ ≠ (v361 : Value).ownBlock ∧ some k_ ≠ (v370 : Value).ownBlock) k_ from fun k_ hk => ⟨(Nat.le_trans (below_size (by repeat (first | (with_reducible first | exact HB.out | apply below_alloc | apply pw_below_drewN | apply below_drew1) | exact HB.out))) hk), Kd.fresh' (Kd.N_lt (by (with_reducible repeat (first | apply Kd.N_alloc | apply Kd.N_drewN | apply Kd.N_drew)); exact HO362.out)) k_ hk, Kd.fresh' (Kd.N_lt (by (with_reducible repeat (first | apply Kd.N_alloc | apply Kd.N_drewN | apply Kd.N_drew)); exact HO371.out)) k_ hk⟩) _ (Nat.le_refl _)) (Below.refl _ _) (Nat.le_refl _) (by simp) ?_; (case hd => rfl); (case hg => rfl); (case hr => first | (go_simp; done) | (go_simp; rfl)); (case hp => exact (Reps.one (show Kd.FK (Kd.slice 64 k64) _ _ y366 [.slice Ao28 y366.length co28] from (Kd.FK_slice_mk (Kd.R_reads' (Kd.R_mono (ok' := (fun k_ => (w.heap.size ≤ k_) ∧ some k_ ≠ (v361 : Value).ownBlock ∧ some k_ ≠ (v370 : Value).ownBlock)) (Kd.R_apart' (Kd.R_apart' (HO368.out) (Kd.N_typed HO362.out) (by decide)) (Kd.N_typed HO371.out) (by decide)) (fun k_ hk => ⟨hk.1.1.1.1, ⟨hk.1.2, hk.2⟩⟩))).2.1 (Kd.R_F (Kd.R_mono (ok' := (fun k_ => (w.heap.size ≤ k_) ∧ some k_ ≠ (v361 : Value).ownBlock ∧ some k_ ≠ (v370 : Value).ownBlock)) (Kd.R_apart' (Kd.R_apart' (HO368.out) (Kd.N_typed HO362.out) (by decide)) (Kd.N_typed HO371.out) (by decide)) (fun k_ hk => ⟨hk.1.1.1.1, ⟨hk.1.2, hk.2⟩⟩))))) (Reps.none _ _))); intro v373 w29 ho30 hb hg_ hnew_; clear hg_ hnew_; (first | rw [← Ny372.out] at ho30 | (simp only [Int.reduceToNat] at ho30; rw [← Ny372.out] at ho30)); have n0_ := Aside0.mk (Kd.N_elder' (by (with_reducible repeat (first | apply Kd.N_alloc | apply Kd.N_drewN | apply Kd.N_drew)); exact HO362.out) (Kd.N_base ho30) hb); have n1_ := Aside0.mk (Kd.N_elder' (by (with_reducible repeat (first | apply Kd.N_alloc | apply Kd.N_drewN | apply Kd.N_drew)); exact HO371.out) (Kd.N_base ho30) hb); have n2_ := Aside0.mk (Kd.N_lower ho30 (below_size (by repeat (first | (with_reducible first | exact HB.out | apply below_alloc | apply pw_below_drewN | apply below_drew1) | exact HB.out)))); have n3_ := Aside0.mk (below_step (by repeat (first | (with_reducible first | exact HB.out | apply below_alloc | apply pw_below_drewN | apply below_drew1) | exact HB.out)) hb); clear HO362; clear HO371; clear HB; clear HO368; have HO362 := n0_; have HO371 := n1_; have HO374 := n2_; have HB := n3_; clear n0_ n1_ n2_ n3_; clear hb ho30; obtain ⟨Ao31, co31, eo31⟩ := Kd.N_slice HO371.out; subst eo31; obtain ⟨Ao32, co32, eo32⟩ := Kd.N_slice HO374.out; subst eo32) | ((with_reducible refine gate_dst (N := 32) rfl ?_); refine Kd.N_lit (Kd.slice 51 (Kd.slice 64 k64)) _ 32 ?hg (N' := 32) ?hd (xs := ([y369, y372] : List (List (List (S64))))) (inner := [.slice Ao31 y369.length co31, .slice Ao32 y372.length co32]) (ok := (fun k_ => (w.heap.size ≤ k_) ∧ some k_ ≠ (v361 : Value).ownBlock)) (okp := (fun k_ => (w.heap.size ≤ k_) ∧ some k_ ≠ (v361 : Value).ownBlock)) ?hr ?hp (fun _ hk => hk) ((show ∀ k_, w29.heap.size ≤ k_ → (fun k_ => (w.heap.size ≤ k_) ∧ some k_ ≠ (v361 : Value).ownBlock) k_ from fun k_ hk => ⟨(Nat.le_trans (below_size (by repeat (first | (with_reducible first | exact HB.out | apply below_alloc | apply pw_below_drewN | apply below_drew1) | exact HB.out))) hk), Kd.fresh' (Kd.N_lt (by (with_reducible repeat (first | apply Kd.N_alloc | apply Kd.N_drewN | apply Kd.N_drew)); exact HO362.out)) k_ hk⟩) _ (Nat.le_refl _)) (Below.refl _ _) (Nat.le_refl _) (by simp) ?_; (case hd => rfl); (case hg => rfl); (case hr => first | (go_simp; done) | (go_simp; rfl)); (case hp => exact (Reps.one (show Kd.FK (Kd.slice 51 (Kd.slice 64 k64)) _ _ y369 [.slice Ao31 y369.length co31] from (Kd.FK_slice_mk (Kd.N_reads' (Kd.N_mono (ok' := (fun k_ => (w.heap.size ≤ k_) ∧ some k_ ≠ (v361 : Value).ownBlock)) (HO371.out) (fun k_ hk => ⟨hk.1.1, hk.1.2.1⟩))).2.1 (Kd.N_F (Kd.N_mono (ok' := (fun k_ => (w.heap.size ≤ k_) ∧ some k_ ≠ (v361 : Value).ownBlock)) (HO371.out) (fun k_ hk => ⟨hk.1.1, hk.1.2.1⟩))))) (Reps.one (show Kd.FK (Kd.slice 51 (Kd.slice 64 k64)) _ _ y372 [.slice Ao32 y372.length co32] from (Kd.FK_slice_mk (Kd.N_reads' (Kd.N_mono (ok' := (fun k_ => (w.heap.size ≤ k_) ∧ some k_ ≠ (v361 : Value).ownBlock)) (HO374.out) (fun k_ hk => ⟨hk.1, hk.2.1⟩))).2.1 (Kd.N_F (Kd.N_mono (ok' := (fun k_ => (w.heap.size ≤ k_) ∧ some k_ ≠ (v361 : Value).ownBlock)) (HO374.out) (fun k_ hk => ⟨hk.1, hk.2.1⟩))))) (Reps.none _ _)))); intro v376 w33 ho34 hb hg_ hnew_; clear hg_ hnew_; (first | rw [← Ny375.out] at ho34 | (simp only [Int.reduceToNat] at ho34; rw [← Ny375.out] at ho34)); have n0_ := Aside0.mk (Kd.N_elder' (by (with_reducible repeat (first | apply Kd.N_alloc | apply Kd.N_drewN | apply Kd.N_drew)); exact HO362.out) (Kd.N_base ho34) hb); have n1_ := Aside0.mk (Kd.N_lower ho34 (below_size (by repeat (first | (with_reducible first | exact HB.out | apply below_alloc | apply pw_below_drewN | apply below_drew1) | exact HB.out)))); have n2_ := Aside0.mk (below_step (by repeat (first | (with_reducible first | exact HB.out | apply below_alloc | apply pw_below_drewN | apply below_drew1) | exact HB.out)) hb); clear HO362; clear HB; clear HO371; clear HO374; have HO362 := n0_; have HO377 := n1_; have HB := n2_; clear n0_ n1_ n2_; clear hb ho34))
  go_ret2
  exact ⟨_, _, by first | rfl | (simp [errW_none, errW_some] <;> rfl) | (simp [*, errW_none, errW_some] <;> rfl), by (with_reducible repeat (first | apply Kd.N_alloc | apply Kd.N_drewN | apply Kd.N_drew)); exact Kd.N_mono HO362.out (fun _ hk => ⟨hk.1.1.1.1.1, hk.2⟩), by (with_reducible repeat (first | apply Kd.N_alloc | apply Kd.N_drewN | apply Kd.N_drew)); exact HO377.out, by repeat (first | (with_reducible first | exact HB.out | apply below_alloc | apply pw_below_drewN | apply below_drew1) | exact HB.out)⟩

end Go.Proofs.YthgfdnffnbclpaaDoor.PAll
