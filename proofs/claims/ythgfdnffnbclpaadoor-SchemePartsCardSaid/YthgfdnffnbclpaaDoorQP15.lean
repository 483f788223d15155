import Derived.Test.YthgfdnffnbclpaaDoorQP14
import Derived.Test.YthgfdnffnbclpaaDoorQP13
import Derived.Test.YthgfdnffnbclpaaDoorQP04
set_option linter.unusedVariables false
set_option linter.unusedSimpArgs false
namespace Go.Proofs.YthgfdnffnbclpaaDoor.PAll
open Go.RowKit Go.Proofs.YthgfdnffnbclpaaDoorW.PrintWords Go.Proofs.YthgfdnffnbclpaaDoorW.PrintLast Go.Proofs.YthgfdnffnbclpaaDoorW.PrintMore

/-- The rows that are not gone. -/
def leftP : Rows → List Bool → Rows
  | row :: r, g :: q => if g = true then leftP r q else row :: leftP r q
  | _, _ => []
def refsFromP (s : List S49) (d : Data) : Nat → List S49 → Option Bool
  | _, [] => some true
  | m, t :: r => (refsP s d m t.f3).bind fun b => if b = true then refsFromP s d (m + 1) r else some false
def deleteP (k : Nat) (s : List S49) (d : Data) (nm : ByteArray) (gone : List Bool) : Option (Data × Int) :=
  (dataP k s d).bind fun v =>
    if v = true then
      if findP nm 0 s < 0 then some ([], 71)
      else if gone.length = (rd_L13 d (findP nm 0 s)).length then
        (refsFromP s (d.set (findP nm 0 s).toNat (leftP (rd_L13 d (findP nm 0 s)) gone)) 0 s).bind fun b =>
          if b = true then some (d.set (findP nm 0 s).toNat (leftP (rd_L13 d (findP nm 0 s)) gone), 0) else some ([], 77)
      else some ([], 78)
    else some ([], 1)

section
variable {P : Program} {ops : Array Oper} {Q : Exit → Act → World → Prop} {rest : List Oper} {o : Oper} {a : Act} {w : World}
theorem wpList_put_run (hg : o.guard = none) (t : TypeId) (p x : Operand) (hop : o.op = .store t p x) (hN : o.dst = none) {pv u : Value} {w' : World} (hp : a.eval p = pv) (hx : a.eval x = u)
    (hrun : (Instr.storeAt t pv u).run P w = .ok () w') (hK : wpList P ops Q rest a w') : wpList P ops Q (o :: rest) a w := by
  refine wpList_plain hg fun K' hK' => ?_
  unfold Oper.wp
  simp only [execOp, hop, hp, hx, hrun, Result.andThen, Sem.run_bind]
  show K' (a.put o.dst undef) w'
  rw [hN]
  exact hK' _ _ hK
end

theorem leftP_snoc : ∀ (a : Rows) (b : List Bool) (x : List S64) (y : Bool), a.length = b.length → leftP (a ++ [x]) (b ++ [y]) = leftP a b ++ (if y = true then [] else [x])
  | [], [], x, y, _ => by cases y <;> rfl
  | [], _ :: _, _, _, h => by simp at h
  | _ :: _, [], _, _, h => by simp at h
  | a :: a2, b :: b2, x, y, h => by
    have := leftP_snoc a2 b2 x y (by simpa using h)
    show leftP (a :: (a2 ++ [x])) (b :: (b2 ++ [y])) = _
    unfold leftP
    rw [this]
    split
    · rfl
    · rfl
theorem leftP_len : ∀ (a : Rows) (b : List Bool), (leftP a b).length ≤ a.length
  | [], b => by simp [leftP]
  | a :: a2, [] => by simp [leftP]
  | a :: a2, b :: b2 => by
    have := leftP_len a2 b2
    unfold leftP
    split
    · simp; omega
    · simp; omega
theorem leftP_mem : ∀ (a : Rows) (b : List Bool), ∀ x ∈ leftP a b, x ∈ a
  | [], b, x, h => by simp [leftP] at h
  | a :: a2, [], x, h => by simp [leftP] at h
  | a :: a2, b :: b2, x, h => by
    unfold leftP at h
    split at h
    · exact List.mem_cons_of_mem _ (leftP_mem a2 b2 x h)
    · rcases List.mem_cons.1 h with rfl | h
      · exact List.mem_cons_self
      · exact List.mem_cons_of_mem _ (leftP_mem a2 b2 x h)

set_option maxHeartbeats 4000000 in
set_option maxRecDepth 100000 in
theorem delete_walk (k : Nat) (A0 : Option Addr) (c0 : Nat) (s : List S49) (A1 : Option Addr) (c1 : Nat) (d : Data) (nm : ByteArray) (A3 : Option Addr) (c3 : Nat) (gone : List Bool) (r1 : Data) (r2 : Int) (w : World)
    (hS : Kd.C k49 w A0 s.length s) (hc0 : s.length ≤ c0) (hD : Kd.C (Kd.slice 51 (Kd.slice 64 k64)) w A1 d.length d) (hc1 : d.length ≤ c1) (hG : Kd.C Kd.bool w A3 gone.length gone) (hc3 : gone.length ≤ c3)
    (hwd : wfData d) (hsd : dataP k s d = some true → smallData d) (hL : LaidL w) (h : deleteP k s d nm gone = some (r1, r2)) :
    Calls Tryd.prog 18 #[.slice A0 s.length c0, .slice A1 d.length c1, .string nm, .slice A3 gone.length c3] w fun e w' => ∃ (A : Option Addr) (c : Nat), e = .returned (.tuple #[.slice A r1.length c, .int .i64 r2]) ∧ r1.length ≤ c ∧ Kd.C (Kd.slice 51 (Kd.slice 64 k64)) w' A r1.length r1 ∧ Below w.heap.size w w' := by
  have HS := Aside0.mk hS
  have HD := Aside0.mk hD
  have HG := Aside0.mk hG
  have HWD := Aside0.mk hwd
  have HSD := Aside0.mk hsd
  have HB0 := Aside0.mk (Below.refl w.heap.size w)
  have HNIL : Aside0 (∀ W, Kd.C (Kd.slice 51 (Kd.slice 64 k64)) W none 0 ([] : Data)) := ⟨fun W => C_nil _ W⟩
  unfold deleteP at h
  obtain ⟨v, hv, h⟩ := Option.bind_eq_some_iff.mp h
  have HV := Aside0.mk (validData_walk k A0 c0 s A1 c1 d v w hS hc0 hD hc1 hwd hL hv)
  have HF : Aside0 (∀ W, Below w.heap.size w W → Calls Tryd.prog 30 #[.slice A0 s.length c0, .string nm] W fun e w' => e = .returned (.int .i64 (findP nm 0 s)) ∧ Below W.heap.size W w') := ⟨fun W hW => scheme_find.calls A0 c0 s nm _ W (Kd.C_below hS hW) hc0 rfl⟩
  have HH := Aside0.mk h
  have HVD := Aside0.mk hv
  clear hS hD hG hwd hsd hL h hv
  go_enter Tryd.func18, Tryd.ntmps18
  cases v with
  | false =>
    have h := HH.out
    rw [if_neg (by decide)] at h
    cases h
    go_wp2_with (go_at_call 10; refine HV.out.mono ?_; rintro e w1 ⟨rfl, hb1⟩)
    go_ret2
    exact ⟨_, _, rfl, Nat.le_refl _, HNIL.out _, hb1⟩
  | true =>
    have h := HH.out
    rw [if_pos rfl] at h
    have HLEN := Aside0.mk (dataP_len HVD.out)
    have HSD2 := Aside0.mk (HSD.out HVD.out)
    have hrange := findP_range nm s 0
    generalize findP nm 0 s = n at *
    by_cases q : n < 0
    · rw [if_pos q] at h
      cases h
      have d1 : decide (n < 0) = true := decide_eq_true q
      clear q hrange HH
      go_wp2_with (first | (go_at_call 10; refine HV.out.mono ?_; rintro e w1 ⟨rfl, hb1⟩) | (go_at_call 30; refine (HF.out _ hb1).mono ?_; rintro e w2 ⟨rfl, hb2⟩))
      go_ret2
      exact ⟨_, _, rfl, Nat.le_refl _, HNIL.out _, below_step hb1 hb2⟩
    rw [if_neg q] at h
    have d1 : decide (n < 0) = false := decide_eq_false q
    have hn0 : 0 ≤ n := by omega
    have hns : n < (s.length : Int) := by omega
    have hnd : n < (d.length : Int) := by have := HLEN.out; omega
    clear q hrange HH
    have HP := Aside0.mk h
    clear h
    obtain ⟨ad, Ar, cr, hAd, hx, hcr, hCr⟩ := at_L13 HD.out n hn0 hnd
    cases hAd
    generalize hold : rd_L13 d n = old at *
    have HX : Aside0 (∀ W, Below w.heap.size w W → W.cell? (ad.add n.toNat) = some (.slice Ar old.length cr)) := ⟨fun W hB => (hB.cell (World.block_lt_of_cell? w _ hx)).trans hx⟩
    have HOL : Aside0 (old.length ≤ 2000000) := ⟨by rw [← hold]; unfold rd_L13; have hl : n.toNat < d.length := by omega
                                                    rw [List.getD_eq_getElem?_getD, List.getElem?_eq_getElem hl]; exact (HSD2.out.2 _ (List.getElem_mem hl)).1⟩
    have HOLD := Aside0.mk hold
    clear hx hcr hCr hold
    by_cases q : gone.length = old.length
    case neg =>
      have hp := HP.out
      rw [if_neg q] at hp
      cases hp
      have qi : ¬ ((gone.length : Int) = (old.length : Int)) := by omega
      have d2 : ((gone.length : Int) == (old.length : Int)) = false := beq_eq_false_iff_ne.mpr qi
      have d3 : ((gone.length : Int) != (old.length : Int)) = true := bne_iff_ne.mpr qi
      clear q qi HP
      go_wp2_with (first | (go_at_call 10; refine HV.out.mono ?_; rintro e w1 ⟨rfl, hb1⟩) | (go_at_call 30; refine (HF.out _ hb1).mono ?_; rintro e w2 ⟨rfl, hb2⟩; have x0 := HX.out _ (below_step hb1 hb2)))
      go_ret2
      first
        | exact ⟨_, ⟨_, rfl⟩, HNIL.out _, below_step hb1 hb2⟩
        | exact ⟨_, _, rfl, Nat.le_refl _, HNIL.out _, below_step hb1 hb2⟩
    have hp := HP.out
    rw [if_pos q] at hp
    have HP1 := Aside0.mk hp
    have qi : ((gone.length : Int) = (old.length : Int)) := by omega
    have d2 : ((gone.length : Int) == (old.length : Int)) = true := beq_iff_eq.mpr qi
    have d3 : ((gone.length : Int) != (old.length : Int)) = false := by rw [bne, d2]; rfl
    have HQ := Aside0.mk q
    have HCD : Aside0 (∀ W, Below w.heap.size w W → Calls Tryd.prog 34 #[.slice (some ad) d.length c1] W fun e w' => ∃ v0_ : Value, e = .returned (v0_) ∧ Kd.S (Kd.slice 51 (Kd.slice 64 k64)) 32 w' W.heap.size (fun _ => True) v0_ d ∧ Below W.heap.size W w') := ⟨fun W hW => copiedData_walk (some ad) c1 d W (Kd.C_below HD.out hW) hc1 HSD2.out⟩
    have HDP : Aside0 (0 < d.length) := ⟨by omega⟩
    clear q qi hp HP
    have HMK : Aside0 (∀ W, ∃ W2, (Instr.makeSlice 32 (.int .i64 0) (.int .i64 gone.length)).run Tryd.prog W = .ok (.slice (some ⟨W.heap.size, 0, none⟩) 0 gone.length) W2 ∧ W2.ownsRow W.heap.size 51 1 (.slice (some ⟨W.heap.size, 0, none⟩) 0 gone.length) 0 [] ∧ W.grownBy W2 none) := ⟨fun W => by
      obtain ⟨i0, hi0, hz0, hz1, hz2⟩ := info_parts (P := Tryd.prog) (e := 51) (z := .slice none 0 0) (size := 1) (bytes := 24) (by kernel_rfl)
      have h1 := HQ.out
      have h2 := HOL.out
      exact run_make_own W W.heap.size 32 51 i0 _ 1 Tryd.underlying32 hi0 hz0 hz1 .i64 .i64 gone.length (by rw [hz2]; omega) (by unfold maxLen; omega) (Nat.le_refl _)⟩
    go_wp2_with (first | (go_at_call 10; refine HV.out.mono ?_; rintro e w1 ⟨rfl, hb1⟩) | (go_at_call 30; refine (HF.out _ hb1).mono ?_; rintro e w2 ⟨rfl, hb2⟩; have x0 := HX.out _ (below_step hb1 hb2)) | (go_at_call 34; refine (HCD.out _ (below_step hb1 hb2)).mono ?_; rintro e W1 ⟨v, rfl, ho, hb3⟩; obtain ⟨g, cap, ev, hg1, hg2, gcells, hgc⟩ := Kd.S_form ho HDP.out; subst ev; obtain ⟨oki, cc, hcl, hM, hcc, hoki, hH⟩ := Kd.S_lend ho ([] : Rows) n hn0 hnd; obtain ⟨vn, rfl, hRn⟩ := hM; rw [show List.getD d n.toNat [] = old from HOLD.out] at hRn; obtain ⟨An, cn, rfl⟩ := Kd.R_slice hRn; have hcell0 := hcc 0 _ rfl; have hcell : W1.cell? ⟨g, n.toNat, none⟩ = some (.slice An old.length cn) := (by simpa [Kd.slice] using hcell0); obtain ⟨W2, hmk, hown, hgr⟩ := HMK.out W1; have HBM := Aside0.mk ((Below.refl W1.heap.size W1).grown hgr (Nat.le_refl _) (fun j hj => by cases hj)); have hcell2 := (HBM.out.cell (World.block_lt_of_cell? W1 _ hcell)).trans hcell))
    have HBW1 := Aside0.mk (below_step (below_step hb1 hb2) hb3)
    have HW2S : Aside0 (w2.heap.size ≤ W1.heap.size) := ⟨hb3.size⟩
    have HWS : Aside0 (w.heap.size ≤ w2.heap.size) := ⟨(below_step hb1 hb2).size⟩
    have HRN := Aside0.mk hRn
    have HGC := Aside0.mk hgc
    have HG1 := Aside0.mk hg1
    have HG2 := Aside0.mk hg2
    have HHH := Aside0.mk (Kd.H_widen hH)
    have HCE := Aside0.mk hcell
    have HO0 : Aside0 ((Kd.slice 64 k64).R 51 W2 w2.heap.size (fun k => oki k ∨ W1.heap.size ≤ k) (.slice (some ⟨W1.heap.size, 0, none⟩) 0 gone.length) []) := ⟨fun k hk => Or.inr (by simp [Value.ownBlock] at hk; omega), [], own_weaken hown hb3.size, Reps.none _ _⟩
    clear hRn hgc hg1 hg2 hH hcell hcell0 hcell2 hmk hown hgr hcc hoki ho hb1 hb2 hb3 x0 d2 d3 d1 HCD HDP HMK HV HF
    go_loopg [12, 43] old.length (fun gk v12 v43 wx => ∃ (i : Nat), i + gk = old.length ∧ v43 = .int .i64 i ∧ Aside0 ((Kd.slice 64 k64).R 51 wx w2.heap.size (fun k => oki k ∨ W1.heap.size ≤ k) v12 (leftP (old.take i) (gone.take i))) ∧ Aside0 (∀ k, v12.ownBlock = some k → W1.heap.size ≤ k) ∧ Aside0 (Below W1.heap.size W1 wx))
    case atStart => exact ⟨0, by omega, rfl, by simpa [leftP] using HO0, ⟨fun k hk => by simp [Value.ownBlock] at hk; omega⟩, HBM⟩
    case round =>
      clear HO0 HBM
      obtain ⟨i, hi, rfl, HO, HOB, HB⟩ := hrel
      cases gk with
      | succ gk =>
        have hlt : i < old.length := by omega
        have hltg : i < gone.length := by have := HQ.out; omega
        have hii : (i : Int) < (old.length : Int) := by omega
        have hig : (i : Int) < (gone.length : Int) := by omega
        have hi0 : (0 : Int) ≤ (i : Int) := by omega
        obtain ⟨gn, capn, en, _⟩ := Kd.R_form HRN.out (by omega)
        cases en
        obtain ⟨cc, hcl, hM, hcc⟩ := Kd.R_getA HRN.out ([] : List S64) (i : Int) hi0 hii
        obtain ⟨vr, rfl, hRr⟩ := hM
        obtain ⟨Ai, ci, rfl⟩ := Kd.R_slice hRr
        have hcell := hcc 0 _ rfl
        have hgd : List.getD old (i : Int).toNat [] = old[i] := by simp [List.getD, hlt]
        rw [hgd] at hcell hRr
        have hcell2 : wr.cell? ⟨gn, i, none⟩ = some (.slice Ai old[i].length ci) := by
          have h1 : W1.cell? ⟨gn, i, none⟩ = some (.slice Ai old[i].length ci) := by rw [add_plain] at hcell; simpa [Kd.slice] using hcell
          exact (HB.out.cell (World.block_lt_of_cell? W1 _ h1)).trans h1
        obtain ⟨adg, hAg, hbg⟩ := Kd.at_bool HG.out (i : Int) hi0 hig
        cases hAg
        rw [Int.toNat_natCast] at hbg
        have hgb : rdOf false gone (i : Int) = gone[i] := by unfold rdOf; simp [List.getD, hltg]
        rw [hgb] at hbg
        have hBw := below_step HBW1.out HB.out
        replace hbg := (hBw.cell (World.block_lt_of_cell? w _ hbg)).trans hbg
        have HTL : Aside0 (leftP (old.take (i + 1)) (gone.take (i + 1)) = leftP (old.take i) (gone.take i) ++ (if gone[i] = true then [] else [old[i]])) := ⟨by
          rw [take_snoc hlt, take_snoc hltg]
          exact leftP_snoc _ _ _ _ (by rw [List.length_take, List.length_take]; omega)⟩
        have HPL : Aside0 ((leftP (old.take i) (gone.take i)).length ≤ 2000000) := ⟨by
          have := leftP_len (old.take i) (gone.take i)
          have h2 := HOL.out
          rw [List.length_take] at this
          omega⟩
        have HM := Aside0.mk (Kd.M_row hRr)
        clear hcell hcc hRr hgd hgb hBw
        generalize old[i] = row at *
        generalize leftP (old.take i) (gone.take i) = pre at *
        cases hgi : gone[i] with
        | true =>
          rw [hgi] at hbg HTL
          rw [if_pos rfl, List.append_nil] at HTL
          clear hgi
          go_wp2
          go_roundg gk
          case measure => omega
          case rel => exact ⟨i + 1, by omega, by first | rfl | (simp; done) | (have := HOL.out; simp; unfold wrap64; omega), ⟨by rw [HTL.out]; exact HO.out⟩, HOB, HB⟩
        | false =>
          rw [hgi] at hbg HTL
          rw [if_neg (by decide)] at HTL
          clear hgi
          have hp_ : (Kd.slice 64 k64).M wr w2.heap.size (fun k => oki k ∧ k < W1.heap.size) row [.slice Ai row.length ci] := (Kd.slice 64 k64).M_mono (fun k hk => ⟨hk.1.1, hk.2.2.1⟩) (Kd.M_below ((Kd.slice 64 k64).M_bound HM.out) HB.out)
          have HPP := Aside0.mk hp_
          have hl24 : (pre.length + 1) * 24 ≤ 140737488355328 := by have := HPL.out; omega
          have HBS : Aside0 (W1.heap.size ≤ wr.heap.size) := ⟨HB.out.size⟩
          clear hp_
          go_wp2_with ((with_reducible refine gate_builtin (b := .append) (xs := #[.tmp 53, .tmp 55]) rfl ?_); at_builtin; refine Kd.R_append (Kd.slice 64 k64) (w0 := wr) w2.heap.size rfl (.tmp 53) (.tmp 55) 32 51 (.slice none 0 0) 24 rfl Tryd.underlying32 info51 rfl (by decide) (by omega) u12 pre row [.slice Ai row.length ci] (fun k => oki k ∨ W1.heap.size ≤ k) (fun k => oki k ∧ k < W1.heap.size) rfl rfl HPP.out (fun k hk => ⟨Or.inl hk.1, fun he => by have := HOB.out k he.symm; omega⟩) (fun k hk => Or.inr (Nat.le_trans HBS.out hk)) HO.out (Below.refl _ _) (Nat.le_trans HW2S.out HBS.out) hl24 ?_; intro v1 w3 hv1 _ hg3 hat3)
          go_roundg gk
          case measure => omega
          case rel => exact ⟨i + 1, by omega, by first | rfl | (simp; done) | (have := HOL.out; simp; unfold wrap64; omega), ⟨by rw [HTL.out]; exact hv1⟩, ⟨fun k hk => by
            rcases hat3 with h | ⟨b, h, hle⟩
            · exact HOB.out k (h ▸ hk)
            · rw [h] at hk; injection hk with hk; have := HBS.out; omega⟩, ⟨HB.out.grown hg3 HBS.out (fun j hj => HOB.out j hj)⟩⟩
      | zero =>
        have e1 : old.take i = old := List.take_of_length_le (by omega)
        have e2 : gone.take i = gone := List.take_of_length_le (by have := HQ.out; omega)
        rw [e1, e2] at HO
        have hii : ¬ (i : Int) < (old.length : Int) := by omega
        obtain ⟨b, hb, hp⟩ := Option.bind_eq_some_iff.mp HP1.out
        have hwfl : ∀ row ∈ leftP old gone, ∀ x ∈ row, wfV x := by
          intro row hr
          have hl : n.toNat < d.length := by omega
          have : old ∈ d := by rw [← HOLD.out]; unfold rd_L13; rw [List.getD_eq_getElem?_getD, List.getElem?_eq_getElem hl]; exact List.getElem_mem hl
          exact HWD.out _ this row (leftP_mem _ _ row hr)
        have HWL := Aside0.mk hwfl
        generalize leftP old gone = left at *
        have HHB := Aside0.mk hb
        have HP2 := Aside0.mk hp
        obtain ⟨A5, c5, e5⟩ := Kd.R_slice HO.out
        subst e5
        clear e1 e2 hb hp hwfl HP1
        have hgc : wr.heap[g]? = some (.cells gcells 32 (0, 0)) := (HB.out.block g HG2.out).trans HGC.out
        have hfit : n.toNat + 1 ≤ gcells.size := by
          have h2 := (blk_cell HGC.out n.toNat).symm.trans HCE.out
          have := (Array.getElem?_eq_some_iff.1 h2).1
          omega
        have hS4 := (Kd.S_seg0 (Kd.H_below HHH.out HB.out) hn0 hnd (seg := [.slice A5 left.length c5]) (j := 0) (Nat.le_refl _) (x' := left) (okp := fun k => oki k ∨ W1.heap.size ≤ k) (Kd.M_row HO.out) (fun k hk => hk.elim Or.inl (fun h => Or.inr ⟨trivial, h⟩))).1
        have hoff : n.toNat * (Kd.slice 51 (Kd.slice 64 k64)).sz + 0 = n.toNat := by simp [Kd.slice]
        rw [hoff] at hS4
        have HW4 : Aside0 (Below w.heap.size w (wr.setCells g n.toNat [.slice A5 left.length c5])) := ⟨Go.below_setCells (Nat.le_trans HWS.out HG1.out) _ _ _ (below_step HBW1.out HB.out)⟩
        have hrun := run_store_run (P := Tryd.prog) 32 (.slice A5 left.length c5) [.slice A5 left.length c5] hgc rfl (by kernel_rfl) (by simpa using hfit) (by simp [Value.oneCell'])
        obtain ⟨W4, hW4⟩ : ∃ W4, W4 = wr.setCells g n.toNat [.slice A5 left.length c5] := ⟨_, rfl⟩
        rw [← hW4] at hS4 HW4 hrun
        have HRUN := Aside0.mk hrun
        have HO4 := Aside0.mk (Kd.S_reads' hS4)
        clear hS4 hoff hrun hW4 hgc hfit
        go_wp2_with ((with_reducible refine gate_ (.store 32 (.tmp 61) (.tmp 60)) rfl ?_); refine wpList_put_run rfl 32 (.tmp 61) (.tmp 60) rfl rfl rfl rfl HRUN.out ?_)
        have hol : (d.set n.toNat left).length = d.length := List.length_set
        have HOL2 := Aside0.mk hol
        have HWF : Aside0 (∀ rows ∈ d.set n.toNat left, ∀ row ∈ rows, ∀ x ∈ row, wfV x) := ⟨by
          intro rs hr
          rcases List.mem_or_eq_of_mem_set hr with h1 | h1
          · exact HWD.out rs h1
          · rw [h1]; exact HWL.out⟩
        have HRF : Aside0 (∀ (m : Nat) (b : Bool) (W : World), m < s.length → Below W4.heap.size W4 W → refsP s (d.set n.toNat left) m (rd_T49 s m).f3 = some b → Calls Tryd.prog 29 #[.slice A0 s.length c0, .slice (some ⟨g, 0, none⟩) d.length cap, .int .i64 m] W fun e w' => e = .returned (.bool b) ∧ Below W.heap.size W w') := ⟨fun m b W hm hW hf => by
          have h1 := refsHold_walk A0 c0 s (some ⟨g, 0, none⟩) cap (d.set n.toNat left) m b W (Kd.C_below HS.out (below_step HW4.out hW)) hc0 (Kd.C_below (hol ▸ HO4.out.2.2) hW) (hol ▸ HO4.out.2.1) HWF.out (by omega) (by omega) (by rw [hol]; have := HLEN.out; omega) hf
          rw [hol] at h1
          exact h1⟩
        have HB40 := Aside0.mk (Below.refl W4.heap.size W4)
        have HC4 : Aside0 (d.length ≤ cap ∧ Kd.C (Kd.slice 51 (Kd.slice 64 k64)) W4 (some ⟨g, 0, none⟩) (d.set n.toNat left).length (d.set n.toNat left)) := ⟨⟨HO4.out.2.1, hol ▸ HO4.out.2.2⟩⟩
        clear hol hii hi HWF HO HOB HB HO4 HRUN
        go_loopg [64] s.length (fun gk v64 wx => ∃ (m : Nat), m + gk = s.length ∧ v64 = .int .i64 m ∧ Aside0 (Below W4.heap.size W4 wx) ∧ Aside0 (refsFromP s (d.set n.toNat left) 0 s = refsFromP s (d.set n.toNat left) m (s.drop m)))
        case atStart => exact ⟨0, by omega, rfl, HB40, ⟨by simp⟩⟩
        case round =>
          clear HB40
          obtain ⟨m, hm, rfl, HB, HE⟩ := hrel
          rename_i gk1
          cases gk with
          | zero =>
            have e : s.drop m = [] := List.drop_eq_nil_of_le (by omega)
            have he := HE.out
            rw [e, refsFromP] at he
            have hbt : b = true := by have := HHB.out; rw [he] at this; exact (Option.some.inj this).symm
            subst hbt
            have hp := HP2.out
            rw [if_pos rfl] at hp
            have hii : ¬ (m : Int) < (s.length : Int) := by omega
            cases hp
            clear he HE HHB HP2 e HRF
            go_wp2
            go_ret2
            exact ⟨some ⟨g, 0, none⟩, cap, by first | rfl | (rw [HOL2.out]; rfl), HOL2.out ▸ HC4.out.1, Kd.C_below (HOL2.out ▸ HC4.out.2) HB.out, below_step HW4.out HB.out⟩
          | succ gk =>
            have hlt : m < s.length := by omega
            have hii : (m : Int) < (s.length : Int) := by omega
            have hdr : s.drop m = s[m] :: s.drop (m + 1) := List.drop_eq_getElem_cons hlt
            have hrd : rd_T49 s (m : Int) = s[m] := by unfold rd_T49; simp [List.getD, hlt]
            have he := HE.out
            rw [hdr, refsFromP] at he
            have hb2 := HHB.out
            rw [he] at hb2
            obtain ⟨b1, hb1, hb3⟩ := Option.bind_eq_some_iff.mp hb2
            have HN := Aside0.mk (HRF.out m b1 wr hlt HB.out (by rw [hrd]; exact hb1))
            have HE2 : Aside0 (refsFromP s (d.set n.toNat left) 0 s = if b1 = true then refsFromP s (d.set n.toNat left) (m + 1) (s.drop (m + 1)) else some false) := ⟨by rw [he, hb1]; rfl⟩
            have HB3 := Aside0.mk hb3
            clear he hb2 hb1 hb3 HE hdr hrd HRF
            cases b1 with
            | false =>
              have hb3 := HB3.out
              rw [if_neg (by decide)] at hb3
              obtain rfl := Option.some.inj hb3
              have hp := HP2.out
              rw [if_neg (by decide)] at hp
              cases hp
              clear hb3 HHB HP2 HE2 HB3
              go_wp2_with (go_at_call 29; refine HN.out.mono ?_; rintro e w6 ⟨rfl, hb6⟩)
              go_ret2
              first
                | exact ⟨_, ⟨_, rfl⟩, HNIL.out _, below_step HW4.out (below_step HB.out hb6)⟩
                | exact ⟨_, _, rfl, Nat.le_refl _, HNIL.out _, below_step HW4.out (below_step HB.out hb6)⟩
            | true =>
              rw [if_pos rfl] at HE2
              go_wp2_with (go_at_call 29; refine HN.out.mono ?_; rintro e w6 ⟨rfl, hb6⟩)
              go_roundg gk
              case measure => omega
              case rel => exact ⟨m + 1, by omega, by first | rfl | (simp; done) | (have := HS.out.2.1; simp; unfold wrap64; omega), ⟨below_step HB.out hb6⟩, HE2⟩
end Go.Proofs.YthgfdnffnbclpaaDoor.PAll
namespace Go.Proofs.YthgfdnffnbclpaaDoor.PAll
open Go.RowKit Go.Proofs.YthgfdnffnbclpaaDoorW.PrintWords Go.Proofs.YthgfdnffnbclpaaDoorW.PrintLast Go.Proofs.YthgfdnffnbclpaaDoorW.PrintMore

theorem refFindG_range (nm : ByteArray) : ∀ (l : List S49) (i : Nat) (n : Int), refFindG nm i l = (n, true) → (i : Int) ≤ n ∧ n < (i + l.length : Nat)
  | [], i, n, h => by rw [refFindG] at h; cases h
  | t :: l, i, n, h => by
    rw [refFindG] at h
    split at h
    · cases h; simp; omega
    · have := refFindG_range nm l (i + 1) n h
      simp at this ⊢; omega
theorem refFindP_range {s : List S49} {nm : ByteArray} {n : Int} (h : refFindP s nm = some (n, true)) : 0 ≤ n ∧ n < (s.length : Int) := by
  unfold refFindP at h
  obtain ⟨v, _, h⟩ := Option.bind_eq_some_iff.mp h
  split at h
  · have := refFindG_range nm s 0 n (Option.some.inj h)
    simp at this; omega
  · cases h
end Go.Proofs.YthgfdnffnbclpaaDoor.PAll
namespace Go.Proofs.YthgfdnffnbclpaaDoor.PAll
open Go.RowKit Go.Proofs.YthgfdnffnbclpaaDoorW.PrintWords Go.Proofs.YthgfdnffnbclpaaDoorW.PrintLast Go.Proofs.YthgfdnffnbclpaaDoorW.PrintMore

def refFromP (s : List S49) (d : Data) : Nat → Nat → Option Bool
  | 0, _ => some true
  | g + 1, m => (refRefsP s d m (rd_T49 s m).f3).bind fun b => if b = true then refFromP s d g (m + 1) else some false
end Go.Proofs.YthgfdnffnbclpaaDoor.PAll
namespace Go.Proofs.YthgfdnffnbclpaaDoor.PAll
open Go.RowKit Go.Proofs.YthgfdnffnbclpaaDoorW.PrintWords Go.Proofs.YthgfdnffnbclpaaDoorW.PrintLast Go.Proofs.YthgfdnffnbclpaaDoorW.PrintMore

theorem dataB_facts {s : List S49} {d : Data} (h : dataB s d = true) : validB s = true ∧ d.length = s.length ∧ dataFitP s d = true ∧ holdsB s d s.length 0 = true := by
  unfold dataB at h
  simp only [Bool.and_eq_true] at h
  exact ⟨h.1, of_decide_eq_true h.2.1, h.2.2.1, h.2.2.2⟩
theorem fit_rows {s : List S49} {d : Data} (h : dataB s d = true) : ∀ n, n < s.length → ∀ row ∈ rd_L13 d (n : Int), row.length = (rd_T49 s (n : Int)).f1.length := by
  obtain ⟨hv, hl, hf, _⟩ := dataB_facts h
  exact fun n hn => rowsFit_len (dataFit_at hf n hn (by omega)).2
theorem small_of {s : List S49} {d : Data} (h : dataB s d = true) : smallData d := by
  obtain ⟨hv, hl, hf, _⟩ := dataB_facts h
  obtain ⟨h16, hat⟩ := validB_at hv
  refine ⟨by omega, fun rows hr => ?_⟩
  obtain ⟨n, hn, rfl⟩ := List.getElem_of_mem hr
  have h1 := dataFit_at hf n (by omega) hn
  have h2 := fit_rows h n (by omega)
  have h3 := (tabB_facts (hat n (by omega))).1
  rw [rdL13 hn] at h1 h2
  exact ⟨by have := h1.1; omega, fun row hrow => by rw [h2 row hrow]; omega⟩
theorem errs_fit {t : S49} : ∀ {rows : Rows}, errsP t rows = 0 → ∀ row ∈ rows, row.length = t.f1.length
  | [], _, row, h => by cases h
  | x :: r, h, row, hm => by
    rw [errsP] at h
    split at h
    · rename_i q
      rcases List.mem_cons.1 hm with rfl | hm
      · unfold fitsRowP at q
        split at q
        · assumption
        · cases q
      · exact errs_fit h row hm
    · rename_i q; exact absurd h q
theorem smallRows_of {s : List S49} (hv : validB s = true) {n : Nat} (hn : n < s.length) {rows : Rows} (h : errsP (rd_T49 s (n : Int)) rows = 0) (hl : rows.length ≤ 1000) : smallRows rows := by
  have h3 := (tabB_facts ((validB_at hv).2 n hn)).1
  exact ⟨by omega, fun row hr => by rw [errs_fit h row hr]; omega⟩
theorem rd13_set {d : Data} {n m : Nat} {x : Rows} (hm : m < d.length) : rd_L13 (d.set n x) (m : Int) = if m = n then x else rd_L13 d (m : Int) := by
  unfold rd_L13
  rw [List.getD_eq_getElem?_getD, List.getD_eq_getElem?_getD, Int.toNat_natCast, List.getElem?_set]
  by_cases e : n = m
  · subst e; simp [hm]
  · rw [if_neg e, if_neg (fun h => e h.symm)]
theorem set_fit {s : List S49} {d : Data} (h : dataB s d = true) {n : Nat} {x : Rows} (hx : ∀ row ∈ x, row.length = (rd_T49 s (n : Int)).f1.length) : ∀ m, m < s.length → ∀ row ∈ rd_L13 (d.set n x) (m : Int), row.length = (rd_T49 s (m : Int)).f1.length := by
  intro m hm row hr
  obtain ⟨_, hl, _, _⟩ := dataB_facts h
  rw [rd13_set (by omega)] at hr
  by_cases e : m = n
  · rw [if_pos e] at hr; rw [e]; exact hx row hr
  · rw [if_neg e] at hr; exact fit_rows h m hm row hr

def insAtB (s : List S49) (d : Data) (n : Nat) (rows : Rows) : Data × Int :=
  if errsP (rd_T49 s n) rows = 0 then
    if ((rd_L13 d n).length : Int) + (rows.length : Int) > 1000 then ([], 72)
    else if ((rd_T49 s n).f2.all fun k => KB k [] (rd_L13 d n ++ rows)) = true then
      if (rd_T49 s n).f3.all (refHB s (d.set n (rd_L13 d n ++ rows)) n) = true then (d.set n (rd_L13 d n ++ rows), 0) else ([], 77)
    else ([], 76)
  else ([], errsP (rd_T49 s n) rows)
def insB (s : List S49) (d : Data) (nm : ByteArray) (rows : Rows) : Data × Int :=
  if dataB s d = true then if (findB s nm).2 = true then insAtB s d (findB s nm).1.toNat rows else ([], 71) else ([], 1)
theorem new_fit {s : List S49} {d : Data} (h : dataB s d = true) {n : Nat} (hn : n < s.length) {rows : Rows} (he : errsP (rd_T49 s n) rows = 0) : ∀ row ∈ rd_L13 d (n : Int) ++ rows, row.length = (rd_T49 s (n : Int)).f1.length := by
  intro row hr
  rcases List.mem_append.1 hr with hr | hr
  · exact fit_rows h n hn row hr
  · exact errs_fit he row hr
theorem find_pos {s : List S49} (hv : validB s = true) (nm : ByteArray) : (0 ≤ findP nm 0 s → findB s nm = (findP nm 0 s, true)) ∧ (¬ 0 ≤ findP nm 0 s → findB s nm = (0, false)) := by
  unfold findB
  rw [if_pos hv]
  exact find_G nm s 0
theorem insert_is (s : List S49) (hw : ∀ t ∈ s, wfT t) (d : Data) (nm : ByteArray) (rows : Rows) : Ev (fun k => insertP k s d nm rows) (insB s d nm rows) := by
  obtain ⟨K, hK⟩ := data_is s hw d
  refine ⟨K, fun k hk => ?_⟩
  have h := hK k hk
  simp only at h
  show insertP k s d nm rows = _
  unfold insertP insB
  rw [h, Option.bind_some]
  cases hd : dataB s d with
  | false => rfl
  | true =>
    obtain ⟨hv, hl, hf, _⟩ := dataB_facts hd
    rw [if_pos rfl, if_pos rfl]
    obtain ⟨f1, f2⟩ := find_pos hv nm
    by_cases q : 0 ≤ findP nm 0 s
    · have hr : findP nm 0 s < (s.length : Int) := by have := findP_range nm s 0; omega
      rw [if_neg (by omega), f1 q, if_pos rfl]
      show _ = some (insAtB s d (findP nm 0 s).toNat rows)
      generalize findP nm 0 s = ni at *
      obtain ⟨n, rfl⟩ : ∃ n : Nat, ni = (n : Int) := ⟨ni.toNat, by omega⟩
      rw [Int.toNat_natCast]
      have hn : n < s.length := by omega
      unfold insAtB
      by_cases he : errsP (rd_T49 s n) rows = 0
      · rw [if_pos he, if_pos he]
        by_cases q : ((rd_L13 d n).length : Int) + (rows.length : Int) > 1000
        · rw [if_pos q, if_pos q]
        · have hnew := new_fit hd hn he
          rw [if_neg q, if_neg q, (keys_is _ _ (key_ok hv n hn hnew)).1, Option.bind_some, (refs_is s (d.set n (rd_L13 d n ++ rows)) n _ (ref_ok hv (by rw [List.length_set]; exact hl) (set_fit hd hnew) n hn)).1, Option.bind_some]
          split <;> first | rfl | (split <;> rfl)
      · rw [if_neg he, if_neg he]
    · rw [if_pos (by omega), f2 q]; rfl

/-! #### Delete -/
def fromB (s : List S49) (d : Data) : Nat → Nat → Bool
  | 0, _ => true
  | g + 1, m => ((rd_T49 s m).f3.all (refHB s d m)) && fromB s d g (m + 1)
def delAtB (s : List S49) (d : Data) (n : Nat) (gone : List Bool) : Data × Int :=
  if gone.length = (rd_L13 d n).length then
    if fromB s (d.set n (leftP (rd_L13 d n) gone)) (s.length - (n + 1)) (n + 1) = true then (d.set n (leftP (rd_L13 d n) gone), 0) else ([], 77)
  else ([], 78)
def delB (s : List S49) (d : Data) (nm : ByteArray) (gone : List Bool) : Data × Int :=
  if dataB s d = true then if (findB s nm).2 = true then delAtB s d (findB s nm).1.toNat gone else ([], 71) else ([], 1)
theorem from_is (s : List S49) (d : Data) (hok : ∀ m, m < s.length → ∀ r ∈ (rd_T49 s (m : Int)).f3, RefOk s d m r) : ∀ (g m : Nat), m + g = s.length → refFromP s d g m = some (fromB s d g m) ∧ refsFromP s d m (s.drop m) = some (fromB s d g m) := by
  intro g
  induction g with
  | zero => intro m hm; rw [List.drop_eq_nil_of_le (by omega)]; exact ⟨rfl, rfl⟩
  | succ g ih =>
    intro m hm
    obtain ⟨h1, h2⟩ := ih (m + 1) (by omega)
    obtain ⟨r1, r2⟩ := refs_is s d m _ (hok m (by omega))
    rw [refFromP, List.drop_eq_getElem_cons (by omega : m < s.length), refsFromP, ← rdT49 (by omega : m < s.length), r1, r2, Option.bind_some, Option.bind_some, h1, h2, fromB]
    cases (rd_T49 s (m : Int)).f3.all (refHB s d m) <;> exact ⟨rfl, rfl⟩
theorem holdsB_at (s : List S49) (d : Data) : ∀ (g i : Nat), i + g = s.length → holdsB s d g i = true → ∀ j, i ≤ j → j < s.length → (rd_T49 s (j : Int)).f3.all (refHB s d j) = true := by
  intro g
  induction g with
  | zero => intro i hi _ j h1 h2; omega
  | succ g ih =>
    intro i hi h j h1 h2
    rw [holdsB] at h
    simp only [Bool.and_eq_true] at h
    by_cases e : j = i
    · rw [e]; exact h.2.1
    · exact ih (i + 1) (by omega) h.2.2 j (by omega) h2
theorem RB_sub {cols key : List Int} {others rows rows' : Rows} (h : RB cols key others rows = true) (hs : ∀ x ∈ rows', x ∈ rows) : RB cols key others rows' = true := by
  unfold RB at h ⊢
  rw [List.all_eq_true] at h ⊢
  exact fun x hx => h x (hs x hx)
theorem ref_before {s : List S49} {n : Nat} (hv : validB s = true) (hn : n < s.length) {r : S75} (hr : r ∈ (rd_T49 s (n : Int)).f3) : 0 ≤ r.f1 ∧ r.f1 < (n : Int) := by
  have hb := (tabB_facts ((validB_at hv).2 n hn)).2.2 r hr
  have hlen : (s.take n).length = n := by rw [List.length_take]; omega
  unfold refB at hb
  rw [hlen] at hb
  split at hb
  · cases hb
  split at hb
  · cases hb
  omega
theorem del_before {s : List S49} {d : Data} (h : dataB s d = true) {n : Nat} (hn : n < s.length) (left : Rows) (hsub : ∀ x ∈ left, x ∈ rd_L13 d (n : Int)) (m : Nat) (hm : m ≤ n) : (rd_T49 s (m : Int)).f3.all (refHB s (d.set n left) m) = true := by
  obtain ⟨hv, hl, hf, hh⟩ := dataB_facts h
  have h1 := holdsB_at s d s.length 0 (by omega) hh m (by omega) (by omega)
  rw [List.all_eq_true] at h1 ⊢
  intro r hr
  have h2 := h1 r hr
  obtain ⟨b1, b2⟩ := ref_before hv (by omega : m < s.length) hr
  unfold refHB at h2 ⊢
  have e1 : rd_L13 (d.set n left) r.f1 = rd_L13 d r.f1 := by
    have := rd13_set (d := d) (n := n) (m := r.f1.toNat) (x := left) (by omega)
    rw [if_neg (by omega), Int.toNat_of_nonneg b1] at this
    exact this
  rw [e1, rd13_set (by omega)]
  by_cases e : m = n
  · rw [if_pos e]; rw [e] at h2; exact RB_sub h2 hsub
  · rw [if_neg e]; exact h2
theorem from_skip {s : List S49} {d : Data} {n : Nat} (hn : n < s.length) (h : ∀ m, m ≤ n → (rd_T49 s (m : Int)).f3.all (refHB s d m) = true) : ∀ (j m : Nat), m + j = n + 1 → fromB s d (s.length - m) m = fromB s d (s.length - (n + 1)) (n + 1) := by
  intro j
  induction j with
  | zero => intro m hm; rw [show m = n + 1 by omega]
  | succ j ih =>
    intro m hm
    rw [show s.length - m = (s.length - (m + 1)) + 1 by omega, fromB, h m (by omega), Bool.true_and]
    exact ih (m + 1) (by omega)
theorem del_ok {s : List S49} {d : Data} (h : dataB s d = true) {n : Nat} (hn : n < s.length) (gone : List Bool) : ∀ m, m < s.length → ∀ r ∈ (rd_T49 s (m : Int)).f3, RefOk s (d.set n (leftP (rd_L13 d n) gone)) m r := by
  obtain ⟨hv, hl, hf, hh⟩ := dataB_facts h
  exact ref_ok hv (by rw [List.length_set]; exact hl) (set_fit h (fun row hr => fit_rows h n hn row (leftP_mem _ _ row hr)))
theorem delete_is (s : List S49) (hw : ∀ t ∈ s, wfT t) (d : Data) (nm : ByteArray) (gone : List Bool) : Ev (fun k => deleteP k s d nm gone) (delB s d nm gone) := by
  obtain ⟨K, hK⟩ := data_is s hw d
  refine ⟨K, fun k hk => ?_⟩
  have h := hK k hk
  simp only at h
  show deleteP k s d nm gone = _
  unfold deleteP delB
  rw [h, Option.bind_some]
  cases hd : dataB s d with
  | false => rfl
  | true =>
    obtain ⟨hv, hl, hf, _⟩ := dataB_facts hd
    rw [if_pos rfl, if_pos rfl]
    obtain ⟨f1, f2⟩ := find_pos hv nm
    by_cases q : 0 ≤ findP nm 0 s
    · have hr : findP nm 0 s < (s.length : Int) := by have := findP_range nm s 0; omega
      rw [if_neg (by omega), f1 q, if_pos rfl]
      show _ = some (delAtB s d (findP nm 0 s).toNat gone)
      generalize findP nm 0 s = ni at *
      obtain ⟨n, rfl⟩ : ∃ n : Nat, ni = (n : Int) := ⟨ni.toNat, by omega⟩
      rw [Int.toNat_natCast]
      have hn : n < s.length := by omega
      unfold delAtB
      by_cases e : gone.length = (rd_L13 d n).length
      · have h1 := (from_is s _ (del_ok hd hn gone) s.length 0 (by omega)).2
        have h2 := from_skip (d := d.set n (leftP (rd_L13 d n) gone)) hn (fun m hm => del_before hd hn _ (fun x hx => leftP_mem _ _ x hx) m hm) (n + 1) 0 (by omega)
        rw [List.drop_zero] at h1
        rw [Nat.sub_zero] at h2
        rw [if_pos e, if_pos e, h1, h2, Option.bind_some]
        split <;> rfl
      · rw [if_neg e, if_neg e]
    · rw [if_pos (by omega), f2 q]; rfl
end Go.Proofs.YthgfdnffnbclpaaDoor.PAll
namespace Go.Proofs.YthgfdnffnbclpaaDoor.PAll
open Go.RowKit Go.Proofs.YthgfdnffnbclpaaDoorW.PrintWords Go.Proofs.YthgfdnffnbclpaaDoorW.PrintLast Go.Proofs.YthgfdnffnbclpaaDoorW.PrintMore Go.Proofs.YthgfdnffnbclpaaDoor
theorem wfT_of {t : S49} (h : okT t) : wfT t := by
  obtain ⟨h0, h1, h2, h3, h4⟩ := h
  have e : maxLen = 9223372036854775807 := by decide
  rw [e] at h0 h4
  refine ⟨h0, fun c hc => by have := h1.2 c hc; rw [e] at this; exact this, fun k hk => by have := (h2.2 k hk).1; rw [e] at this; exact this, fun r hr => ?_, h4.1⟩
  obtain ⟨g1, g2⟩ := h3.2 r hr
  rw [e] at g1
  exact ⟨g1, List.all_eq_true.2 g2⟩
theorem wfData_of {d : Data} (h : ∀ rows ∈ d, rows.length ≤ maxLen ∧ ∀ row ∈ rows, okRow row) : wfData d := fun rows hr row hw x hx => ((h rows hr).2 row hw).2 x hx
theorem wfRows_of {d : Rows} (h : ∀ row ∈ d, okRow row) : wfRows d := fun row hw x hx => (h row hw).2 x hx
end Go.Proofs.YthgfdnffnbclpaaDoor.PAll
namespace Go.Proofs.YthgfdnffnbclpaaDoor
open Go.ChangeShapes Go.WideShapes Go.Deep Go.RowKit
open Go.Proofs.YthgfdnffnbclpaaDoorW.PrintWords Go.Proofs.YthgfdnffnbclpaaDoorW.PrintLast Go.Proofs.YthgfdnffnbclpaaDoorW.PrintMore Go.Proofs.YthgfdnffnbclpaaDoor.PAll
theorem arg_len {H : Type} {enc : TypeId × Value → H} {w : World} {t e : TypeId} (ht : Tryd.prog.underlying t = some (.slice e)) {A : Option Addr} {len cap : Nat} {x : DataW H} {p : List MemPlace}
    (h : DataW.Trod enc Tryd.prog w 0 (fun _ => true) true t (.slice A len cap) x p) : len = 0 ∨ ∃ elems spare : List (DataW H), x = .slice elems spare ∧ elems.length = len := by
  obtain ⟨fuel, hf⟩ := h
  rcases open_slice ht hf with ⟨hcs, _⟩ | ⟨a, len', cap', m, n', D, Pl, hcs, hb, hl, hm, hmm, hx, hi⟩
  · left
    have : Value.slice A len cap = .slice none 0 0 := by simpa [Value.cells] using hcs
    injection this
  · right
    have : Value.slice A len cap = .slice (some a) len' cap' := by simpa [Value.cells] using hcs
    injection this with _ h2 _
    subst h2
    exact ⟨_, _, (Prod.mk.inj hx).1, by simp⟩
end Go.Proofs.YthgfdnffnbclpaaDoor
namespace Go.Proofs.YthgfdnffnbclpaaDoor.PAll
open Go.RowKit Go.Proofs.YthgfdnffnbclpaaDoorW.PrintWords Go.Proofs.YthgfdnffnbclpaaDoorW.PrintLast Go.Proofs.YthgfdnffnbclpaaDoorW.PrintMore

theorem rowsFit_errs (t : S49) : ∀ rows : Rows, rowsFitP t rows = true ↔ errsP t rows = 0
  | [] => by simp [rowsFitP, errsP]
  | x :: r => by
    rw [rowsFitP, errsP]
    by_cases h : fitsRowP t.f1 x = 0
    · rw [if_pos h, if_pos h]; exact rowsFit_errs t r
    · rw [if_neg h, if_neg h]; simp [h]
theorem errs_app (t : S49) : ∀ a b : Rows, errsP t (a ++ b) = 0 ↔ errsP t a = 0 ∧ errsP t b = 0
  | [], b => by simp [errsP]
  | x :: r, b => by
    rw [List.cons_append, errsP, errsP]
    by_cases h : fitsRowP t.f1 x = 0
    · rw [if_pos h, if_pos h]; exact errs_app t r b
    · rw [if_neg h, if_neg h]; simp [h]
def TabOk (s : List S49) (d : Data) (n : Nat) : Prop :=
  (rd_L13 d (n : Int)).length ≤ 1000 ∧ errsP (rd_T49 s (n : Int)) (rd_L13 d (n : Int)) = 0 ∧ ((rd_T49 s (n : Int)).f2.all fun k => KB k [] (rd_L13 d (n : Int))) = true ∧ (rd_T49 s (n : Int)).f3.all (refHB s d n) = true
theorem holds_iff (s : List S49) (d : Data) : ∀ (g i : Nat), holdsB s d g i = true ↔ ∀ j, i ≤ j → j < i + g → ((rd_T49 s (j : Int)).f2.all fun k => KB k [] (rd_L13 d (j : Int))) = true ∧ (rd_T49 s (j : Int)).f3.all (refHB s d j) = true
  | 0, i => by simp [holdsB]; intro j h1 h2; omega
  | g + 1, i => by
    rw [holdsB, Bool.and_eq_true, Bool.and_eq_true, holds_iff s d g (i + 1)]
    constructor
    · rintro ⟨h1, h2, h3⟩ j a b
      by_cases e : j = i
      · rw [e]; exact ⟨h1, h2⟩
      · exact h3 j (by omega) (by omega)
    · intro h
      have h0 := h i (Nat.le_refl _) (by omega)
      exact ⟨h0.1, h0.2, fun j a b => h j (by omega) (by omega)⟩
theorem fit_iff : ∀ (s : List S49) (d : Data), d.length = s.length → (dataFitP s d = true ↔ ∀ n : Nat, n < s.length → (rd_L13 d (n : Int)).length ≤ 1000 ∧ errsP (rd_T49 s (n : Int)) (rd_L13 d (n : Int)) = 0)
  | [], d, _ => by simp [dataFitP]
  | t :: s, [], h => by simp at h
  | t :: s, x :: d, h => by
    have ih := fit_iff s d (by simpa using h)
    have e0 : rd_T49 (t :: s) ((0 : Nat) : Int) = t ∧ rd_L13 (x :: d) ((0 : Nat) : Int) = x := ⟨rfl, rfl⟩
    have e1 : ∀ n : Nat, rd_T49 (t :: s) ((n + 1 : Nat) : Int) = rd_T49 s (n : Int) ∧ rd_L13 (x :: d) ((n + 1 : Nat) : Int) = rd_L13 d (n : Int) := fun n => ⟨by unfold rd_T49; simp, by unfold rd_L13; simp⟩
    rw [dataFitP]
    constructor
    · intro g n hn
      split at g
      · cases g
      rename_i q
      split at g
      · rename_i q2
        cases n with
        | zero => rw [e0.1, e0.2]; exact ⟨by omega, (rowsFit_errs t x).1 q2⟩
        | succ n => rw [(e1 n).1, (e1 n).2]; exact ih.1 g n (by simpa using hn)
      · cases g
    · intro g
      have g0 := g 0 (by simp)
      rw [e0.1, e0.2] at g0
      rw [if_neg (by omega), if_pos ((rowsFit_errs t x).2 g0.2)]
      refine ih.2 fun n hn => ?_
      have := g (n + 1) (by simpa using hn)
      rw [(e1 n).1, (e1 n).2] at this
      exact this
theorem data_iff (s : List S49) (d : Data) : dataB s d = true ↔ validB s = true ∧ d.length = s.length ∧ ∀ n, n < s.length → TabOk s d n := by
  unfold dataB
  rw [Bool.and_eq_true, Bool.and_eq_true, Bool.and_eq_true, decide_eq_true_eq, holds_iff]
  constructor
  · rintro ⟨h1, h2, h3, h4⟩
    refine ⟨h1, h2, fun n hn => ?_⟩
    obtain ⟨a, b⟩ := (fit_iff s d h2).1 h3 n hn
    obtain ⟨c, e⟩ := h4 n (by omega) (by omega)
    exact ⟨a, b, c, e⟩
  · rintro ⟨h1, h2, h3⟩
    exact ⟨h1, h2, (fit_iff s d h2).2 fun n hn => ⟨(h3 n hn).1, (h3 n hn).2.1⟩, fun j _ hj => ⟨(h3 j (by omega)).2.2.1, (h3 j (by omega)).2.2.2⟩⟩
theorem KB_app (key : List Int) : ∀ (a b p : Rows), KB key p (a ++ b) = true → KB key p a = true
  | [], b, p, _ => rfl
  | x :: r, b, p, h => by
    rw [List.cons_append, KB] at h
    rw [KB]
    split at h
    · cases h
    · rename_i q
      rw [if_neg q]
      exact KB_app key r b _ h
theorem RB_mono {cols key : List Int} {others others' rows : Rows} (h : RB cols key others rows = true) (hs : ∀ x ∈ others, x ∈ others') : RB cols key others' rows = true := by
  unfold RB at h ⊢
  rw [List.all_eq_true] at h ⊢
  intro x hx
  have := h x hx
  rw [Bool.or_eq_true] at this ⊢
  rcases this with q | q
  · exact .inl q
  · right
    rw [List.any_eq_true] at q ⊢
    obtain ⟨y, hy, e⟩ := q
    exact ⟨y, hs y hy, e⟩
/-- A table's new rows among old data: what it needs. -/
theorem tab_new {s : List S49} (hv : validB s = true) {d : Data} (hl : d.length = s.length) {n : Nat} (hn : n < s.length) (x : Rows) : TabOk s (d.set n x) n ↔ x.length ≤ 1000 ∧ errsP (rd_T49 s (n : Int)) x = 0 ∧ ((rd_T49 s (n : Int)).f2.all fun k => KB k [] x) = true ∧
    ∀ r ∈ (rd_T49 s (n : Int)).f3, RB r.f0 (rd_L6 (rd_T49 s r.f1).f2 r.f2) (rd_L13 d r.f1) x = true := by
  unfold TabOk
  rw [rd13_set (by omega), if_pos rfl, List.all_eq_true (l := (rd_T49 s (n : Int)).f3)]
  have key : ∀ r ∈ (rd_T49 s (n : Int)).f3, refHB s (d.set n x) n r = RB r.f0 (rd_L6 (rd_T49 s r.f1).f2 r.f2) (rd_L13 d r.f1) x := by
    intro r hr
    obtain ⟨b1, b2⟩ := ref_before hv hn hr
    unfold refHB
    have e1 : rd_L13 (d.set n x) r.f1 = rd_L13 d r.f1 := by
      have := rd13_set (d := d) (n := n) (m := r.f1.toNat) (x := x) (by omega)
      rw [if_neg (by omega), Int.toNat_of_nonneg b1] at this
      exact this
    rw [e1, rd13_set (by omega), if_pos rfl]
  constructor
  · rintro ⟨h1, h2, h3, h4⟩; exact ⟨h1, h2, h3, fun r hr => by rw [← key r hr]; exact h4 r hr⟩
  · rintro ⟨h1, h2, h3, h4⟩; exact ⟨h1, h2, h3, fun r hr => by rw [key r hr]; exact h4 r hr⟩
/-- More rows in one table: the data stay valid if that table's rows are good. -/
theorem more_valid {s : List S49} {d : Data} (h : dataB s d = true) {n : Nat} (hn : n < s.length) {x : Rows} (hs : ∀ row ∈ rd_L13 d (n : Int), row ∈ x) (ht : TabOk s (d.set n x) n) : dataB s (d.set n x) = true := by
  obtain ⟨hv, hl, hT⟩ := (data_iff s d).1 h
  refine (data_iff s _).2 ⟨hv, by rw [List.length_set]; exact hl, fun m hm => ?_⟩
  by_cases e : m = n
  · rw [e]; exact ht
  obtain ⟨g1, g2, g3, g4⟩ := hT m hm
  unfold TabOk
  rw [rd13_set (by omega), if_neg e]
  refine ⟨g1, g2, g3, ?_⟩
  rw [List.all_eq_true] at g4 ⊢
  intro r hr
  have h2 := g4 r hr
  obtain ⟨b1, b2⟩ := ref_before hv hm hr
  unfold refHB at h2 ⊢
  rw [rd13_set (by omega), if_neg e]
  have e1 := rd13_set (d := d) (n := n) (m := r.f1.toNat) (x := x) (by omega)
  rw [Int.toNat_of_nonneg b1] at e1
  rw [e1]
  split
  · rename_i q
    refine RB_mono h2 (fun y hy => hs y ?_)
    rw [← q, Int.toNat_of_nonneg b1]; exact hy
  · exact h2
theorem insAt_iff {s : List S49} {d : Data} (h : dataB s d = true) {n : Nat} (hn : n < s.length) (rows : Rows) : (dataB s (d.set n (rd_L13 d (n : Int) ++ rows)) = true → insAtB s d n rows = (d.set n (rd_L13 d (n : Int) ++ rows), 0)) ∧
    (¬ dataB s (d.set n (rd_L13 d (n : Int) ++ rows)) = true → (insAtB s d n rows).1 = [] ∧ (insAtB s d n rows).2 ≠ 0) := by
  obtain ⟨hv, hl, hT⟩ := (data_iff s d).1 h
  have h0 := hT n hn
  constructor
  · intro g
    obtain ⟨g1, g2, g3, g4⟩ := ((data_iff s _).1 g).2.2 n hn
    rw [rd13_set (by omega), if_pos rfl] at g1 g2 g3
    unfold insAtB
    rw [if_pos ((errs_app _ _ _).1 g2).2, if_neg (by rw [List.length_append] at g1; omega), if_pos g3, if_pos g4]
  · intro g
    unfold insAtB
    split
    · rename_i q1
      split
      · exact ⟨rfl, by simp⟩
      · rename_i q2
        split
        · rename_i q3
          split
          · rename_i q4
            refine absurd (more_valid h hn (fun row hr => List.mem_append_left _ hr) ?_) g
            unfold TabOk
            rw [rd13_set (by omega), if_pos rfl]
            exact ⟨by rw [List.length_append]; omega, (errs_app _ _ _).2 ⟨h0.2.1, q1⟩, q3, q4⟩
          · exact ⟨rfl, by simp⟩
        · exact ⟨rfl, by simp⟩
    · rename_i q; exact ⟨rfl, q⟩
/-- Of rows that can be put in, the first few can be. -/
theorem ins_take {s : List S49} {d : Data} (h : dataB s d = true) {n : Nat} (hn : n < s.length) {rows : Rows} (g : dataB s (d.set n (rd_L13 d (n : Int) ++ rows)) = true) (j : Nat) : dataB s (d.set n (rd_L13 d (n : Int) ++ rows.take j)) = true := by
  obtain ⟨hv, hl, hT⟩ := (data_iff s d).1 h
  refine more_valid h hn (fun row hr => List.mem_append_left _ hr) ((tab_new hv hl hn _).2 ?_)
  obtain ⟨g1, g2, g3, g4⟩ := (tab_new hv hl hn _).1 (((data_iff s _).1 g).2.2 n hn)
  have e : rd_L13 d (n : Int) ++ rows = (rd_L13 d (n : Int) ++ rows.take j) ++ rows.drop j := by rw [List.append_assoc, List.take_append_drop]
  rw [e] at g1 g2 g3 g4
  refine ⟨by rw [List.length_append] at g1; omega, ((errs_app _ _ _).1 g2).1, ?_, fun r hr => RB_sub (g4 r hr) fun x hx => List.mem_append_left _ hx⟩
  rw [List.all_eq_true] at g3 ⊢
  exact fun k hk => KB_app k _ _ _ (g3 k hk)
theorem insB_at {s : List S49} {d : Data} (nm : ByteArray) (rows : Rows) (h : dataB s d = true) {n : Nat} (hf : findB s nm = ((n : Int), true)) : insB s d nm rows = insAtB s d n rows := by
  unfold insB
  rw [if_pos h, hf, if_pos rfl]
  simp
theorem insB_not {s : List S49} {d : Data} (nm : ByteArray) (rows : Rows) (h : ¬ (dataB s d = true ∧ (findB s nm).2 = true)) : (insB s d nm rows).1 = [] ∧ (insB s d nm rows).2 ≠ 0 := by
  unfold insB
  by_cases q : dataB s d = true
  · rw [if_pos q, if_neg (fun e => h ⟨q, e⟩)]; exact ⟨rfl, by simp⟩
  · rw [if_neg q]; exact ⟨rfl, by simp⟩
theorem leftP_parts : ∀ (a b : Rows), leftP (a ++ b) (List.replicate a.length false ++ List.replicate b.length true) = a
  | [], [] => rfl
  | [], x :: b => by
    have := leftP_parts [] b
    simp only [List.nil_append, List.length_nil, List.replicate_zero, List.length_cons, List.replicate_succ] at this ⊢
    rw [leftP, if_pos rfl]; exact this
  | x :: a, b => by
    have := leftP_parts a b
    simp only [List.cons_append, List.length_cons, List.replicate_succ] at this ⊢
    rw [leftP, if_neg (by simp), this]
def goneB (a b : Nat) : List Bool := (List.range b).map fun (i : Nat) => decide ((i : Int) ≥ (a : Int))
theorem goneB_is (a b : Nat) : goneB a (a + b) = List.replicate a false ++ List.replicate b true := by
  refine List.ext_getElem? fun i => ?_
  unfold goneB
  rw [List.getElem?_map, List.getElem?_append, List.length_replicate]
  by_cases h : i < a
  · rw [if_pos h, List.getElem?_range (by omega), List.getElem?_replicate, if_pos h]; simp; omega
  · rw [if_neg h]
    by_cases h2 : i < a + b
    · rw [List.getElem?_range h2, List.getElem?_replicate, if_pos (by omega)]; simp; omega
    · rw [List.getElem?_replicate, if_neg (by omega), List.getElem?_eq_none (by simp; omega)]; rfl
theorem delB_at {s : List S49} {d : Data} (nm : ByteArray) (gone : List Bool) (h : dataB s d = true) {n : Nat} (hn : n < s.length) (hf : findB s nm = ((n : Int), true)) (hg : gone.length = (rd_L13 d (n : Int)).length) (h2 : dataB s (d.set n (leftP (rd_L13 d (n : Int)) gone)) = true) : delB s d nm gone = (d.set n (leftP (rd_L13 d (n : Int)) gone), 0) := by
  unfold delB
  rw [if_pos h, hf, if_pos rfl]
  show delAtB s d n gone = _
  unfold delAtB
  obtain ⟨hv, hl, hT⟩ := (data_iff s _).1 h2
  have key : ∀ g m, m + g = s.length → fromB s (d.set n (leftP (rd_L13 d (n : Int)) gone)) g m = true := by
    intro g
    induction g with
    | zero => intro m _; rfl
    | succ g ih => intro m hm; rw [fromB, (hT m (by omega)).2.2.2, ih (m + 1) (by omega)]; rfl
  rw [if_pos hg, if_pos (key _ _ (by omega))]
/-- Rows put in at once or in two parts. -/
theorem parts_is (s : List S49) (d : Data) (nm : ByteArray) (rows : Rows) (j : Nat) :
    ((insB s d nm rows).1 = [] ∧ (insB s d nm rows).2 ≠ 0 ∧ (insB s d nm (rows.take j)).1 = [] ∧ (insB s d nm (rows.take j)).2 ≠ 0) ∨
    ((insB s d nm rows).1 = [] ∧ (insB s d nm rows).2 ≠ 0 ∧ (insB s d nm (rows.take j)).2 = 0 ∧ (insB s (insB s d nm (rows.take j)).1 nm (rows.drop j)).1 = [] ∧ (insB s (insB s d nm (rows.take j)).1 nm (rows.drop j)).2 ≠ 0) ∨
    ((insB s d nm rows).2 = 0 ∧ (insB s d nm (rows.take j)).2 = 0 ∧ insB s (insB s d nm (rows.take j)).1 nm (rows.drop j) = ((insB s d nm rows).1, 0) ∧ dataB s d = true ∧ ∃ n : Nat, n < s.length ∧ findB s nm = ((n : Int), true) ∧ (insB s d nm rows).1 = d.set n (rd_L13 d (n : Int) ++ rows) ∧
      dataB s (d.set n (rd_L13 d (n : Int) ++ rows)) = true ∧ delB s (insB s d nm rows).1 nm (goneB (rd_L13 d (n : Int)).length ((rd_L13 d (n : Int)).length + rows.length)) = (d, 0)) := by
  by_cases q : dataB s d = true ∧ (findB s nm).2 = true
  · obtain ⟨q1, q2⟩ := q
    have hr := refFindP_range (s := s) (nm := nm) (n := (findB s nm).1) (by rw [refFind_is, ← q2])
    obtain ⟨n, hn⟩ : ∃ n : Nat, (findB s nm).1 = (n : Int) := ⟨(findB s nm).1.toNat, by omega⟩
    have hf : findB s nm = ((n : Int), true) := by rw [← hn, ← q2]
    have hns : n < s.length := by omega
    have hl := ((data_iff s d).1 q1).2.1
    rw [insB_at nm rows q1 hf, insB_at nm (rows.take j) q1 hf]
    obtain ⟨a1, a2⟩ := insAt_iff q1 hns rows
    obtain ⟨b1, b2⟩ := insAt_iff q1 hns (rows.take j)
    have enew : rd_L13 (d.set n (rd_L13 d (n : Int) ++ rows.take j)) (n : Int) ++ rows.drop j = rd_L13 d (n : Int) ++ rows := by rw [rd13_set (by omega), if_pos rfl, List.append_assoc, List.take_append_drop]
    have eset : (d.set n (rd_L13 d (n : Int) ++ rows.take j)).set n (rd_L13 d (n : Int) ++ rows) = d.set n (rd_L13 d (n : Int) ++ rows) := by rw [List.set_set]
    by_cases g : dataB s (d.set n (rd_L13 d (n : Int) ++ rows)) = true
    · have g2 := ins_take q1 hns g j
      obtain ⟨c1, c2⟩ := insAt_iff g2 hns (rows.drop j)
      rw [enew, eset] at c1 c2
      right; right
      rw [a1 g, b1 g2]
      have hx : rd_L13 (d.set n (rd_L13 d (n : Int) ++ rows)) (n : Int) = rd_L13 d (n : Int) ++ rows := by rw [rd13_set (by omega), if_pos rfl]
      have hy : leftP (rd_L13 d (n : Int) ++ rows) (goneB (rd_L13 d (n : Int)).length ((rd_L13 d (n : Int)).length + rows.length)) = rd_L13 d (n : Int) := by rw [goneB_is, leftP_parts]
      have hz : (d.set n (rd_L13 d (n : Int) ++ rows)).set n (rd_L13 d (n : Int)) = d := by
        rw [List.set_set, rdL13 (show n < d.length by omega)]; simp
      refine ⟨rfl, rfl, by rw [insB_at nm _ g2 hf]; exact c1 g, q1, n, hns, hf, rfl, g, ?_⟩
      have := delB_at nm (goneB (rd_L13 d (n : Int)).length ((rd_L13 d (n : Int)).length + rows.length)) g hns hf (by rw [hx, List.length_append]; unfold goneB; simp) (by rw [hx, hy, hz]; exact q1)
      rw [hx, hy, hz] at this
      exact this
    · by_cases g2 : dataB s (d.set n (rd_L13 d (n : Int) ++ rows.take j)) = true
      · obtain ⟨c1, c2⟩ := insAt_iff g2 hns (rows.drop j)
        rw [enew, eset] at c1 c2
        right; left
        rw [b1 g2]
        refine ⟨(a2 g).1, (a2 g).2, rfl, ?_⟩
        rw [insB_at nm _ g2 hf]
        exact c2 g
      · left; exact ⟨(a2 g).1, (a2 g).2, (b2 g2).1, (b2 g2).2⟩
  · left
    exact ⟨(insB_not nm rows q).1, (insB_not nm rows q).2, (insB_not nm _ q).1, (insB_not nm _ q).2⟩
end Go.Proofs.YthgfdnffnbclpaaDoor.PAll
namespace Go.Proofs.YthgfdnffnbclpaaDoor.PAll
open Go.RowKit Go.Proofs.YthgfdnffnbclpaaDoorW.PrintWords Go.Proofs.YthgfdnffnbclpaaDoorW.PrintLast Go.Proofs.YthgfdnffnbclpaaDoorW.PrintMore

set_option maxHeartbeats 4000000 in
set_option maxRecDepth 100000 in
theorem sameRows_walk (A0 : Option Addr) (c0 : Nat) (A1 : Option Addr) (c1 : Nat) (l : List S64) (w : World) (hA : Kd.C k64 w A0 l.length l) (hc0 : l.length ≤ c0) (hB : Kd.C k64 w A1 l.length l) (hc1 : l.length ≤ c1) :
    Calls Tryd.prog 59 #[.slice A0 l.length c0, .slice A1 l.length c1] w fun e w' => e = .returned (.bool true) ∧ Below w.heap.size w w' := by
  have HA := Aside0.mk hA
  have HB := Aside0.mk hB
  have hlen := hA.2.1
  have HSM : Aside0 (∀ (x : S64) (W : World), Calls Tryd.prog 76 #[.agg #[.int .u8 x.f0, .int .i64 x.f1, .string x.f2], .agg #[.int .u8 x.f0, .int .i64 x.f1, .string x.f2]] W fun e w' => e = .returned (.bool true) ∧ Below W.heap.size W w') := ⟨fun x W => jointerref01_Same.calls _ _ _ _ _ _ _ W ((same_is x x).trans (by rw [decide_eq_true rfl]))⟩
  have e1 : ((l.length : Int) == (l.length : Int)) = true := beq_iff_eq.mpr rfl
  have e2 : ((l.length : Int) != (l.length : Int)) = false := by rw [bne, e1]; rfl
  clear hA hB
  go_enter Tryd.func59, Tryd.ntmps59
  go_wp2
  go_loopg [5] l.length (fun gk v5 wx => ∃ (i : Nat), i + gk = l.length ∧ v5 = .int .i64 i ∧ Aside0 (Below w.heap.size w wx))
  case atStart => exact ⟨0, by omega, rfl, ⟨Below.refl _ _⟩⟩
  case round =>
    clear e1 e2
    obtain ⟨i, hi, rfl, HW⟩ := hrel
    cases gk with
    | zero =>
      have hii : ¬ (i : Int) < (l.length : Int) := by omega
      go_wp2
      go_ret
      exact ⟨rfl, HW.out⟩
    | succ gi =>
      have hii : (i : Int) < (l.length : Int) := by omega
      have hi0 : (0 : Int) ≤ (i : Int) := by omega
      obtain ⟨aa, haa, u0, u1, u2⟩ := at_T64 HA.out (i : Int) hi0 hii
      cases haa
      obtain ⟨ab, hab, v0, v1, v2⟩ := at_T64 HB.out (i : Int) hi0 hii
      cases hab
      rw [Int.toNat_natCast] at u0 u1 u2 v0 v1 v2
      generalize rd_T64 l (i : Int) = x at *
      have KS : ∀ W, Below w.heap.size w W → W.cell? (aa.add (i * 3)) = some (.int .u8 x.f0) ∧ W.cell? ⟨(aa.add (i * 3)).block, (aa.add (i * 3)).off + 1, none⟩ = some (.int .i64 x.f1) ∧ W.cell? ⟨(aa.add (i * 3)).block, (aa.add (i * 3)).off + 2, none⟩ = some (.string x.f2) ∧ W.cell? (ab.add (i * 3)) = some (.int .u8 x.f0) ∧ W.cell? ⟨(ab.add (i * 3)).block, (ab.add (i * 3)).off + 1, none⟩ = some (.int .i64 x.f1) ∧ W.cell? ⟨(ab.add (i * 3)).block, (ab.add (i * 3)).off + 2, none⟩ = some (.string x.f2) := fun W hW =>
        ⟨(hW.cell (World.block_lt_of_cell? w _ u0)).trans u0, (hW.cell (World.block_lt_of_cell? w _ u1)).trans u1, (hW.cell (World.block_lt_of_cell? w _ u2)).trans u2, (hW.cell (World.block_lt_of_cell? w _ v0)).trans v0, (hW.cell (World.block_lt_of_cell? w _ v1)).trans v1, (hW.cell (World.block_lt_of_cell? w _ v2)).trans v2⟩
      have HN : Aside0 (∀ W, Calls Tryd.prog 76 #[.agg #[.int .u8 x.f0, .int .i64 x.f1, .string x.f2], .agg #[.int .u8 x.f0, .int .i64 x.f1, .string x.f2]] W fun e w' => e = .returned (.bool true) ∧ Below W.heap.size W w') := ⟨fun W => HSM.out x W⟩
      clear u0 u1 u2 v0 v1 v2
      go_wp2
      go_region_held3 (fun W => W.cell? (aa.add (i * 3)) = some (.int .u8 x.f0) ∧ W.cell? ⟨(aa.add (i * 3)).block, (aa.add (i * 3)).off + 1, none⟩ = some (.int .i64 x.f1) ∧ W.cell? ⟨(aa.add (i * 3)).block, (aa.add (i * 3)).off + 2, none⟩ = some (.string x.f2) ∧ W.cell? (ab.add (i * 3)) = some (.int .u8 x.f0) ∧ W.cell? ⟨(ab.add (i * 3)).block, (ab.add (i * 3)).off + 1, none⟩ = some (.int .i64 x.f1) ∧ W.cell? ⟨(ab.add (i * 3)).block, (ab.add (i * 3)).off + 2, none⟩ = some (.string x.f2)) (first | exact KS _ (below_drew1 HW.out) | exact KS _ (below_step (below_drew1 HW.out) hb1)) ((go_at_call 76; refine (HN.out _).mono ?_; rintro e w1 ⟨rfl, hb1⟩))
      have HW2 := Aside0.mk (below_step (below_drew1 HW.out) hb1)
      clear hb1 KS
      go_wp2
      go_roundg gi
      case measure => omega
      case rel => exact ⟨i + 1, by omega, ret_n (by omega), HW2⟩

set_option maxHeartbeats 4000000 in
set_option maxRecDepth 100000 in
theorem sameLists_walk (A0 : Option Addr) (c0 : Nat) (A1 : Option Addr) (c1 : Nat) (l : List (List S64)) (w : World) (hA : Kd.C (Kd.slice 64 k64) w A0 l.length l) (hc0 : l.length ≤ c0) (hB : Kd.C (Kd.slice 64 k64) w A1 l.length l) (hc1 : l.length ≤ c1) :
    Calls Tryd.prog 37 #[.slice A0 l.length c0, .slice A1 l.length c1] w fun e w' => e = .returned (.bool true) ∧ Below w.heap.size w w' := by
  have HA := Aside0.mk hA
  have HB := Aside0.mk hB
  have hlen := hA.2.1
  have e1 : ((l.length : Int) == (l.length : Int)) = true := beq_iff_eq.mpr rfl
  have e2 : ((l.length : Int) != (l.length : Int)) = false := by rw [bne, e1]; rfl
  clear hA hB
  go_enter Tryd.func37, Tryd.ntmps37
  go_wp2
  go_loopg [5] l.length (fun gk v5 wx => ∃ (i : Nat), i + gk = l.length ∧ v5 = .int .i64 i ∧ Aside0 (Below w.heap.size w wx))
  case atStart => exact ⟨0, by omega, rfl, ⟨Below.refl _ _⟩⟩
  case round =>
    clear e1 e2
    obtain ⟨i, hi, rfl, HW⟩ := hrel
    cases gk with
    | zero =>
      have hii : ¬ (i : Int) < (l.length : Int) := by omega
      go_wp2
      go_ret
      exact ⟨rfl, HW.out⟩
    | succ gi =>
      have hii : (i : Int) < (l.length : Int) := by omega
      have hi0 : (0 : Int) ≤ (i : Int) := by omega
      obtain ⟨aa, Aa, ca, haa, u0, hca, hCa⟩ := at_L12 HA.out (i : Int) hi0 hii
      cases haa
      obtain ⟨ab, Ab, cb, hab, v0, hcb, hCb⟩ := at_L12 HB.out (i : Int) hi0 hii
      cases hab
      rw [Int.toNat_natCast] at u0 v0
      generalize rd_L12 l (i : Int) = x at *
      have KS : ∀ W, Below w.heap.size w W → W.cell? (aa.add i) = some (.slice Aa x.length ca) ∧ W.cell? (ab.add i) = some (.slice Ab x.length cb) := fun W hW =>
        ⟨(hW.cell (World.block_lt_of_cell? w _ u0)).trans u0, (hW.cell (World.block_lt_of_cell? w _ v0)).trans v0⟩
      have HN : Aside0 (∀ W, Below w.heap.size w W → Calls Tryd.prog 59 #[.slice Aa x.length ca, .slice Ab x.length cb] W fun e w' => e = .returned (.bool true) ∧ Below W.heap.size W w') := ⟨fun W hW => sameRows_walk Aa ca Ab cb x W (Kd.C_below hCa hW) hca (Kd.C_below hCb hW) hcb⟩
      clear u0 v0 hCa hCb
      go_wp2
      go_region_held3 (fun W => W.cell? (aa.add i) = some (.slice Aa x.length ca) ∧ W.cell? (ab.add i) = some (.slice Ab x.length cb)) (first | exact KS _ (below_drew1 HW.out) | exact KS _ (below_step (below_drew1 HW.out) hb1)) ((go_at_call 59; refine (HN.out _ (below_drew1 HW.out)).mono ?_; rintro e w1 ⟨rfl, hb1⟩))
      have HW2 := Aside0.mk (below_step (below_drew1 HW.out) hb1)
      clear hb1 KS
      go_wp2
      go_roundg gi
      case measure => omega
      case rel => exact ⟨i + 1, by omega, ret_n (by omega), HW2⟩

set_option maxHeartbeats 4000000 in
set_option maxRecDepth 100000 in
theorem sameData_walk (A0 : Option Addr) (c0 : Nat) (A1 : Option Addr) (c1 : Nat) (l : List (List (List S64))) (w : World) (hA : Kd.C (Kd.slice 51 (Kd.slice 64 k64)) w A0 l.length l) (hc0 : l.length ≤ c0) (hB : Kd.C (Kd.slice 51 (Kd.slice 64 k64)) w A1 l.length l) (hc1 : l.length ≤ c1) :
    Calls Tryd.prog 16 #[.slice A0 l.length c0, .slice A1 l.length c1] w fun e w' => e = .returned (.bool true) ∧ Below w.heap.size w w' := by
  have HA := Aside0.mk hA
  have HB := Aside0.mk hB
  have hlen := hA.2.1
  have e1 : ((l.length : Int) == (l.length : Int)) = true := beq_iff_eq.mpr rfl
  have e2 : ((l.length : Int) != (l.length : Int)) = false := by rw [bne, e1]; rfl
  clear hA hB
  go_enter Tryd.func16, Tryd.ntmps16
  go_wp2
  go_loopg [5] l.length (fun gk v5 wx => ∃ (i : Nat), i + gk = l.length ∧ v5 = .int .i64 i ∧ Aside0 (Below w.heap.size w wx))
  case atStart => exact ⟨0, by omega, rfl, ⟨Below.refl _ _⟩⟩
  case round =>
    clear e1 e2
    obtain ⟨i, hi, rfl, HW⟩ := hrel
    cases gk with
    | zero =>
      have hii : ¬ (i : Int) < (l.length : Int) := by omega
      go_wp2
      go_ret
      exact ⟨rfl, HW.out⟩
    | succ gi =>
      have hii : (i : Int) < (l.length : Int) := by omega
      have hi0 : (0 : Int) ≤ (i : Int) := by omega
      obtain ⟨aa, Aa, ca, haa, u0, hca, hCa⟩ := at_L13 HA.out (i : Int) hi0 hii
      cases haa
      obtain ⟨ab, Ab, cb, hab, v0, hcb, hCb⟩ := at_L13 HB.out (i : Int) hi0 hii
      cases hab
      rw [Int.toNat_natCast] at u0 v0
      generalize rd_L13 l (i : Int) = x at *
      have KS : ∀ W, Below w.heap.size w W → W.cell? (aa.add i) = some (.slice Aa x.length ca) ∧ W.cell? (ab.add i) = some (.slice Ab x.length cb) := fun W hW =>
        ⟨(hW.cell (World.block_lt_of_cell? w _ u0)).trans u0, (hW.cell (World.block_lt_of_cell? w _ v0)).trans v0⟩
      have HN : Aside0 (∀ W, Below w.heap.size w W → Calls Tryd.prog 37 #[.slice Aa x.length ca, .slice Ab x.length cb] W fun e w' => e = .returned (.bool true) ∧ Below W.heap.size W w') := ⟨fun W hW => sameLists_walk Aa ca Ab cb x W (Kd.C_below hCa hW) hca (Kd.C_below hCb hW) hcb⟩
      clear u0 v0 hCa hCb
      go_wp2
      go_region_held3 (fun W => W.cell? (aa.add i) = some (.slice Aa x.length ca) ∧ W.cell? (ab.add i) = some (.slice Ab x.length cb)) (first | exact KS _ (below_drew1 HW.out) | exact KS _ (below_step (below_drew1 HW.out) hb1)) ((go_at_call 37; refine (HN.out _ (below_drew1 HW.out)).mono ?_; rintro e w1 ⟨rfl, hb1⟩))
      have HW2 := Aside0.mk (below_step (below_drew1 HW.out) hb1)
      clear hb1 KS
      go_wp2
      go_roundg gi
      case measure => omega
      case rel => exact ⟨i + 1, by omega, ret_n (by omega), HW2⟩
end Go.Proofs.YthgfdnffnbclpaaDoor.PAll
