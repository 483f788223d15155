import Derived.Test.YthgfdnffnbclpaaDoorQD16
import Derived.Test.YthgfdnffnbclpaaDoorQD15
import Derived.Test.YthgfdnffnbclpaaDoorQD04
set_option linter.unusedVariables false
set_option linter.unusedSimpArgs false
namespace Go.Proofs.YthgfdnffnbclpaaDoor.PAll
open Go.RowKit Go.Proofs.YthgfdnffnbclpaaDoorW.PrintWords Go.Proofs.YthgfdnffnbclpaaDoorW.PrintLast Go.Proofs.YthgfdnffnbclpaaDoorW.PrintMore

/-- The rows that are not gone. -/
def leftP : Rows → List Bool → Rows
  | row :: r, g :: q => if g = true then leftP r q else row :: leftP r q
  | _, _ => []
def refsFromP (s : List S49) (d : Data) : Nat → List S49 → Option Bool
  | _, [] => some true
  | m, t :: r => (refsP s d m t.f3).bind fun b => if b = true then refsFromP s d (m + 1) r else some false
def deleteP (k : Nat) (s : List S49) (d : Data) (nm : ByteArray) (gone : List Bool) : Option (Data × Int) :=
  (dataP k s d).bind fun v =>
    if v = true then
      if findP nm 0 s < 0 then some ([], 71)
      else if gone.length = (rd_L13 d (findP nm 0 s)).length then
        (refsFromP s (d.set (findP nm 0 s).toNat (leftP (rd_L13 d (findP nm 0 s)) gone)) 0 s).bind fun b =>
          if b = true then some (d.set (findP nm 0 s).toNat (leftP (rd_L13 d (findP nm 0 s)) gone), 0) else some ([], 77)
      else some ([], 78)
    else some ([], 1)

section
variable {P : Program} {ops : Array Oper} {Q : Exit → Act → World → Prop} {rest : List Oper} {o : Oper} {a : Act} {w : World}
theorem wpList_put_run (hg : o.guard = none) (t : TypeId) (p x : Operand) (hop : o.op = .store t p x) (hN : o.dst = none) {pv u : Value} {w' : World} (hp : a.eval p = pv) (hx : a.eval x = u)
    (hrun : (Instr.storeAt t pv u).run P w = .ok () w') (hK : wpList P ops Q rest a w') : wpList P ops Q (o :: rest) a w := by
  refine wpList_plain hg fun K' hK' => ?_
  unfold Oper.wp
  simp only [execOp, hop, hp, hx, hrun, Result.andThen, Sem.run_bind]
  show K' (a.put o.dst undef) w'
  rw [hN]
  exact hK' _ _ hK
end

theorem leftP_snoc : ∀ (a : Rows) (b : List Bool) (x : List S64) (y : Bool), a.length = b.length → leftP (a ++ [x]) (b ++ [y]) = leftP a b ++ (if y = true then [] else [x])
  | [], [], x, y, _ => by cases y <;> rfl
  | [], _ :: _, _, _, h => by simp at h
  | _ :: _, [], _, _, h => by simp at h
  | a :: a2, b :: b2, x, y, h => by
    have := leftP_snoc a2 b2 x y (by simpa using h)
    show leftP (a :: (a2 ++ [x])) (b :: (b2 ++ [y])) = _
    unfold leftP
    rw [this]
    split
    · rfl
    · rfl
theorem leftP_len : ∀ (a : Rows) (b : List Bool), (leftP a b).length ≤ a.length
  | [], b => by simp [leftP]
  | a :: a2, [] => by simp [leftP]
  | a :: a2, b :: b2 => by
    have := leftP_len a2 b2
    unfold leftP
    split
    · simp; omega
    · simp; omega
theorem leftP_mem : ∀ (a : Rows) (b : List Bool), ∀ x ∈ leftP a b, x ∈ a
  | [], b, x, h => by simp [leftP] at h
  | a :: a2, [], x, h => by simp [leftP] at h
  | a :: a2, b :: b2, x, h => by
    unfold leftP at h
    split at h
    · exact List.mem_cons_of_mem _ (leftP_mem a2 b2 x h)
    · rcases List.mem_cons.1 h with rfl | h
      · exact List.mem_cons_self
      · exact List.mem_cons_of_mem _ (leftP_mem a2 b2 x h)

set_option maxHeartbeats 4000000 in
set_option maxRecDepth 100000 in
theorem delete_walk (k : Nat) (A0 : Option Addr) (c0 : Nat) (s : List S49) (A1 : Option Addr) (c1 : Nat) (d : Data) (nm : ByteArray) (A3 : Option Addr) (c3 : Nat) (gone : List Bool) (r1 : Data) (r2 : Int) (w : World)
    (hS : Kd.C k49 w A0 s.length s) (hc0 : s.length ≤ c0) (hD : Kd.C (Kd.slice 51 (Kd.slice 64 k64)) w A1 d.length d) (hc1 : d.length ≤ c1) (hG : Kd.C Kd.bool w A3 gone.length gone) (hc3 : gone.length ≤ c3)
    (hwd : wfData d) (hsd : dataP k s d = some true → smallData d) (hL : LaidL w) (h : deleteP k s d nm gone = some (r1, r2)) :
    Calls Tryd.prog 18 #[.slice A0 s.length c0, .slice A1 d.length c1, .string nm, .slice A3 gone.length c3] w fun e w' => ∃ (A : Option Addr) (c : Nat), e = .returned (.tuple #[.slice A r1.length c, .int .i64 r2]) ∧ r1.length ≤ c ∧ Kd.C (Kd.slice 51 (Kd.slice 64 k64)) w' A r1.length r1 ∧ Below w.heap.size w w' := by
  have HS := Aside0.mk hS
  have HD := Aside0.mk hD
  have HG := Aside0.mk hG
  have HWD := Aside0.mk hwd
  have HSD := Aside0.mk hsd
  have HB0 := Aside0.mk (Below.refl w.heap.size w)
  have HNIL : Aside0 (∀ W, Kd.C (Kd.slice 51 (Kd.slice 64 k64)) W none 0 ([] : Data)) := ⟨fun W => C_nil _ W⟩
  unfold deleteP at h
  obtain ⟨v, hv, h⟩ := Option.bind_eq_some_iff.mp h
  have HV := Aside0.mk (validData_walk k A0 c0 s A1 c1 d v w hS hc0 hD hc1 hwd hL hv)
  have HF : Aside0 (∀ W, Below w.heap.size w W → Calls Tryd.prog 30 #[.slice A0 s.length c0, .string nm] W fun e w' => e = .returned (.int .i64 (findP nm 0 s)) ∧ Below W.heap.size W w') := ⟨fun W hW => scheme_find.calls A0 c0 s nm _ W (Kd.C_below hS hW) hc0 rfl⟩
  have HH := Aside0.mk h
  have HVD := Aside0.mk hv
  clear hS hD hG hwd hsd hL h hv
  go_enter Tryd.func18, Tryd.ntmps18
  cases v with
  | false =>
    have h := HH.out
    rw [if_neg (by decide)] at h
    cases h
    go_wp2_with (go_at_call 10; refine HV.out.mono ?_; rintro e w1 ⟨rfl, hb1⟩)
    go_ret2
    exact ⟨_, _, rfl, Nat.le_refl _, HNIL.out _, hb1⟩
  | true =>
    have h := HH.out
    rw [if_pos rfl] at h
    have HLEN := Aside0.mk (dataP_len HVD.out)
    have HSD2 := Aside0.mk (HSD.out HVD.out)
    have hrange := findP_range nm s 0
    generalize findP nm 0 s = n at *
    by_cases q : n < 0
    · rw [if_pos q] at h
      cases h
      have d1 : decide (n < 0) = true := decide_eq_true q
      clear q hrange HH
      go_wp2_with (first | (go_at_call 10; refine HV.out.mono ?_; rintro e w1 ⟨rfl, hb1⟩) | (go_at_call 30; refine (HF.out _ hb1).mono ?_; rintro e w2 ⟨rfl, hb2⟩))
      go_ret2
      exact ⟨_, _, rfl, Nat.le_refl _, HNIL.out _, below_step hb1 hb2⟩
    rw [if_neg q] at h
    have d1 : decide (n < 0) = false := decide_eq_false q
    have hn0 : 0 ≤ n := by omega
    have hns : n < (s.length : Int) := by omega
    have hnd : n < (d.length : Int) := by have := HLEN.out; omega
    clear q hrange HH
    have HP := Aside0.mk h
    clear h
    obtain ⟨ad, Ar, cr, hAd, hx, hcr, hCr⟩ := at_L13 HD.out n hn0 hnd
    cases hAd
    generalize hold : rd_L13 d n = old at *
    have HX : Aside0 (∀ W, Below w.heap.size w W → W.cell? (ad.add n.toNat) = some (.slice Ar old.length cr)) := ⟨fun W hB => (hB.cell (World.block_lt_of_cell? w _ hx)).trans hx⟩
    have HOL : Aside0 (old.length ≤ 2000000) := ⟨by rw [← hold]; unfold rd_L13; have hl : n.toNat < d.length := by omega
                                                    rw [List.getD_eq_getElem?_getD, List.getElem?_eq_getElem hl]; exact (HSD2.out.2 _ (List.getElem_mem hl)).1⟩
    have HOLD := Aside0.mk hold
    clear hx hcr hCr hold
    by_cases q : gone.length = old.length
    case neg =>
      have hp := HP.out
      rw [if_neg q] at hp
      cases hp
      have qi : ¬ ((gone.length : Int) = (old.length : Int)) := by omega
      have d2 : ((gone.length : Int) == (old.length : Int)) = false := beq_eq_false_iff_ne.mpr qi
      have d3 : ((gone.length : Int) != (old.length : Int)) = true := bne_iff_ne.mpr qi
      clear q qi HP
      go_wp2_with (first | (go_at_call 10; refine HV.out.mono ?_; rintro e w1 ⟨rfl, hb1⟩) | (go_at_call 30; refine (HF.out _ hb1).mono ?_; rintro e w2 ⟨rfl, hb2⟩; have x0 := HX.out _ (below_step hb1 hb2)))
      go_ret2
      first
        | exact ⟨_, ⟨_, rfl⟩, HNIL.out _, below_step hb1 hb2⟩
        | exact ⟨_, _, rfl, Nat.le_refl _, HNIL.out _, below_step hb1 hb2⟩
    have hp := HP.out
    rw [if_pos q] at hp
    have HP1 := Aside0.mk hp
    have qi : ((gone.length : Int) = (old.length : Int)) := by omega
    have d2 : ((gone.length : Int) == (old.length : Int)) = true := beq_iff_eq.mpr qi
    have d3 : ((gone.length : Int) != (old.length : Int)) = false := by rw [bne, d2]; rfl
    have HQ := Aside0.mk q
    have HCD : Aside0 (∀ W, Below w.heap.size w W → Calls Tryd.prog 34 #[.slice (some ad) d.length c1] W fun e w' => ∃ v0_ : Value, e = .returned (v0_) ∧ Kd.S (Kd.slice 51 (Kd.slice 64 k64)) 32 w' W.heap.size (fun _ => True) v0_ d ∧ Below W.heap.size W w') := ⟨fun W hW => copiedData_walk (some ad) c1 d W (Kd.C_below HD.out hW) hc1 HSD2.out⟩
    have HDP : Aside0 (0 < d.length) := ⟨by omega⟩
    clear q qi hp HP
    have HMK : Aside0 (∀ W, ∃ W2, (Instr.makeSlice 32 (.int .i64 0) (.int .i64 gone.length)).run Tryd.prog W = .ok (.slice (some ⟨W.heap.size, 0, none⟩) 0 gone.length) W2 ∧ W2.ownsRow W.heap.size 51 1 (.slice (some ⟨W.heap.size, 0, none⟩) 0 gone.length) 0 [] ∧ W.grownBy W2 none) := ⟨fun W => by
      obtain ⟨i0, hi0, hz0, hz1, hz2⟩ := info_parts (P := Tryd.prog) (e := 51) (z := .slice none 0 0) (size := 1) (bytes := 24) (by kernel_rfl)
      have h1 := HQ.out
      have h2 := HOL.out
      exact run_make_own W W.heap.size 32 51 i0 _ 1 Tryd.underlying32 hi0 hz0 hz1 .i64 .i64 gone.length (by rw [hz2]; omega) (by unfold maxLen; omega) (Nat.le_refl _)⟩
    go_wp2_with (first | (go_at_call 10; refine HV.out.mono ?_; rintro e w1 ⟨rfl, hb1⟩) | (go_at_call 30; refine (HF.out _ hb1).mono ?_; rintro e w2 ⟨rfl, hb2⟩; have x0 := HX.out _ (below_step hb1 hb2)) | (go_at_call 34; refine (HCD.out _ (below_step hb1 hb2)).mono ?_; rintro e W1 ⟨v, rfl, ho, hb3⟩; obtain ⟨g, cap, ev, hg1, hg2, gcells, hgc⟩ := Kd.S_form ho HDP.out; subst ev; obtain ⟨oki, cc, hcl, hM, hcc, hoki, hH⟩ := Kd.S_lend ho ([] : Rows) n hn0 hnd; obtain ⟨vn, rfl, hRn⟩ := hM; rw [show List.getD d n.toNat [] = old from HOLD.out] at hRn; obtain ⟨An, cn, rfl⟩ := Kd.R_slice hRn; have hcell0 := hcc 0 _ rfl; have hcell : W1.cell? ⟨g, n.toNat, none⟩ = some (.slice An old.length cn) := (by simpa [Kd.slice] using hcell0); obtain ⟨W2, hmk, hown, hgr⟩ := HMK.out W1; have HBM := Aside0.mk ((Below.refl W1.heap.size W1).grown hgr (Nat.le_refl _) (fun j hj => by cases hj)); have hcell2 := (HBM.out.cell (World.block_lt_of_cell? W1 _ hcell)).trans hcell))
    have HBW1 := Aside0.mk (below_step (below_step hb1 hb2) hb3)
    have HW2S : Aside0 (w2.heap.size ≤ W1.heap.size) := ⟨hb3.size⟩
    have HWS : Aside0 (w.heap.size ≤ w2.heap.size) := ⟨(below_step hb1 hb2).size⟩
    have HRN := Aside0.mk hRn
    have HGC := Aside0.mk hgc
    have HG1 := Aside0.mk hg1
    have HG2 := Aside0.mk hg2
    have HHH := Aside0.mk (Kd.H_widen hH)
    have HCE := Aside0.mk hcell
    have HO0 : Aside0 ((Kd.slice 64 k64).R 51 W2 w2.heap.size (fun k => oki k ∨ W1.heap.size ≤ k) (.slice (some ⟨W1.heap.size, 0, none⟩) 0 gone.length) []) := ⟨fun k hk => Or.inr (by simp [Value.ownBlock] at hk; omega), [], own_weaken hown hb3.size, Reps.none _ _⟩
    clear hRn hgc hg1 hg2 hH hcell hcell0 hcell2 hmk hown hgr hcc hoki ho hb1 hb2 hb3 x0 d2 d3 d1 HCD HDP HMK HV HF
    go_loopg [12, 43] old.length (fun gk v12 v43 wx => ∃ (i : Nat), i + gk = old.length ∧ v43 = .int .i64 i ∧ Aside0 ((Kd.slice 64 k64).R 51 wx w2.heap.size (fun k => oki k ∨ W1.heap.size ≤ k) v12 (leftP (old.take i) (gone.take i))) ∧ Aside0 (∀ k, v12.ownBlock = some k → W1.heap.size ≤ k) ∧ Aside0 (Below W1.heap.size W1 wx))
    case atStart => exact ⟨0, by omega, rfl, by simpa [leftP] using HO0, ⟨fun k hk => by simp [Value.ownBlock] at hk; omega⟩, HBM⟩
    case round =>
      clear HO0 HBM
      obtain ⟨i, hi, rfl, HO, HOB, HB⟩ := hrel
      cases gk with
      | succ gk =>
        have hlt : i < old.length := by omega
        have hltg : i < gone.length := by have := HQ.out; omega
        have hii : (i : Int) < (old.length : Int) := by omega
        have hig : (i : Int) < (gone.length : Int) := by omega
        have hi0 : (0 : Int) ≤ (i : Int) := by omega
        obtain ⟨gn, capn, en, _⟩ := Kd.R_form HRN.out (by omega)
        cases en
        obtain ⟨cc, hcl, hM, hcc⟩ := Kd.R_getA HRN.out ([] : List S64) (i : Int) hi0 hii
        obtain ⟨vr, rfl, hRr⟩ := hM
        obtain ⟨Ai, ci, rfl⟩ := Kd.R_slice hRr
        have hcell := hcc 0 _ rfl
        have hgd : List.getD old (i : Int).toNat [] = old[i] := by simp [List.getD, hlt]
        rw [hgd] at hcell hRr
        have hcell2 : wr.cell? ⟨gn, i, none⟩ = some (.slice Ai old[i].length ci) := by
          have h1 : W1.cell? ⟨gn, i, none⟩ = some (.slice Ai old[i].length ci) := by rw [add_plain] at hcell; simpa [Kd.slice] using hcell
          exact (HB.out.cell (World.block_lt_of_cell? W1 _ h1)).trans h1
        obtain ⟨adg, hAg, hbg⟩ := Kd.at_bool HG.out (i : Int) hi0 hig
        cases hAg
        rw [Int.toNat_natCast] at hbg
        have hgb : rdOf false gone (i : Int) = gone[i] := by unfold rdOf; simp [List.getD, hltg]
        rw [hgb] at hbg
        have hBw := below_step HBW1.out HB.out
        replace hbg := (hBw.cell (World.block_lt_of_cell? w _ hbg)).trans hbg
        have HTL : Aside0 (leftP (old.take (i + 1)) (gone.take (i + 1)) = leftP (old.take i) (gone.take i) ++ (if gone[i] = true then [] else [old[i]])) := ⟨by
          rw [take_snoc hlt, take_snoc hltg]
          exact leftP_snoc _ _ _ _ (by rw [List.length_take, List.length_take]; omega)⟩
        have HPL : Aside0 ((leftP (old.take i) (gone.take i)).length ≤ 2000000) := ⟨by
          have := leftP_len (old.take i) (gone.take i)
          have h2 := HOL.out
          rw [List.length_take] at this
          omega⟩
        have HM := Aside0.mk (Kd.M_row hRr)
        clear hcell hcc hRr hgd hgb hBw
        generalize old[i] = row at *
        generalize leftP (old.take i) (gone.take i) = pre at *
        cases hgi : gone[i] with
        | true =>
          rw [hgi] at hbg HTL
          rw [if_pos rfl, List.append_nil] at HTL
          clear hgi
          go_wp2
          go_roundg gk
          case measure => omega
          case rel => exact ⟨i + 1, by omega, by first | rfl | (simp; done) | (have := HOL.out; simp; unfold wrap64; omega), ⟨by rw [HTL.out]; exact HO.out⟩, HOB, HB⟩
        | false =>
          rw [hgi] at hbg HTL
          rw [if_neg (by decide)] at HTL
          clear hgi
          have hp_ : (Kd.slice 64 k64).M wr w2.heap.size (fun k => oki k ∧ k < W1.heap.size) row [.slice Ai row.length ci] := (Kd.slice 64 k64).M_mono (fun k hk => ⟨hk.1.1, hk.2.2.1⟩) (Kd.M_below ((Kd.slice 64 k64).M_bound HM.out) HB.out)
          have HPP := Aside0.mk hp_
          have hl24 : (pre.length + 1) * 24 ≤ 140737488355328 := by have := HPL.out; omega
          have HBS : Aside0 (W1.heap.size ≤ wr.heap.size) := ⟨HB.out.size⟩
          clear hp_
          go_wp2_with ((with_reducible refine gate_builtin (b := .append) (xs := #[.tmp 53, .tmp 55]) rfl ?_); at_builtin; refine Kd.R_append (Kd.slice 64 k64) (w0 := wr) w2.heap.size rfl (.tmp 53) (.tmp 55) 32 51 (.slice none 0 0) 24 rfl Tryd.underlying32 info51 rfl (by decide) (by omega) u12 pre row [.slice Ai row.length ci] (fun k => oki k ∨ W1.heap.size ≤ k) (fun k => oki k ∧ k < W1.heap.size) rfl rfl HPP.out (fun k hk => ⟨Or.inl hk.1, fun he => by have := HOB.out k he.symm; omega⟩) (fun k hk => Or.inr (Nat.le_trans HBS.out hk)) HO.out (Below.refl _ _) (Nat.le_trans HW2S.out HBS.out) hl24 ?_; intro v1 w3 hv1 _ hg3 hat3)
          go_roundg gk
          case measure => omega
          case rel => exact ⟨i + 1, by omega, by first | rfl | (simp; done) | (have := HOL.out; simp; unfold wrap64; omega), ⟨by rw [HTL.out]; exact hv1⟩, ⟨fun k hk => by
            rcases hat3 with h | ⟨b, h, hle⟩
            · exact HOB.out k (h ▸ hk)
            · rw [h] at hk; injection hk with hk; have := HBS.out; omega⟩, ⟨HB.out.grown hg3 HBS.out (fun j hj => HOB.out j hj)⟩⟩
      | zero =>
        have e1 : old.take i = old := List.take_of_length_le (by omega)
        have e2 : gone.take i = gone := List.take_of_length_le (by have := HQ.out; omega)
        rw [e1, e2] at HO
        have hii : ¬ (i : Int) < (old.length : Int) := by omega
        obtain ⟨b, hb, hp⟩ := Option.bind_eq_some_iff.mp HP1.out
        have hwfl : ∀ row ∈ leftP old gone, ∀ x ∈ row, wfV x := by
          intro row hr
          have hl : n.toNat < d.length := by omega
          have : old ∈ d := by rw [← HOLD.out]; unfold rd_L13; rw [List.getD_eq_getElem?_getD, List.getElem?_eq_getElem hl]; exact List.getElem_mem hl
          exact HWD.out _ this row (leftP_mem _ _ row hr)
        have HWL := Aside0.mk hwfl
        generalize leftP old gone = left at *
        have HHB := Aside0.mk hb
        have HP2 := Aside0.mk hp
        obtain ⟨A5, c5, e5⟩ := Kd.R_slice HO.out
        subst e5
        clear e1 e2 hb hp hwfl HP1
        have hgc : wr.heap[g]? = some (.cells gcells 32 (0, 0)) := (HB.out.block g HG2.out).trans HGC.out
        have hfit : n.toNat + 1 ≤ gcells.size := by
          have h2 := (blk_cell HGC.out n.toNat).symm.trans HCE.out
          have := (Array.getElem?_eq_some_iff.1 h2).1
          omega
        have hS4 := (Kd.S_seg0 (Kd.H_below HHH.out HB.out) hn0 hnd (seg := [.slice A5 left.length c5]) (j := 0) (Nat.le_refl _) (x' := left) (okp := fun k => oki k ∨ W1.heap.size ≤ k) (Kd.M_row HO.out) (fun k hk => hk.elim Or.inl (fun h => Or.inr ⟨trivial, h⟩))).1
        have hoff : n.toNat * (Kd.slice 51 (Kd.slice 64 k64)).sz + 0 = n.toNat := by simp [Kd.slice]
        rw [hoff] at hS4
        have HW4 : Aside0 (Below w.heap.size w (wr.setCells g n.toNat [.slice A5 left.length c5])) := ⟨Go.below_setCells (Nat.le_trans HWS.out HG1.out) _ _ _ (below_step HBW1.out HB.out)⟩
        have hrun := run_store_run (P := Tryd.prog) 32 (.slice A5 left.length c5) [.slice A5 left.length c5] hgc rfl (by kernel_rfl) (by simpa using hfit) (by simp [Value.oneCell'])
        obtain ⟨W4, hW4⟩ : ∃ W4, W4 = wr.setCells g n.toNat [.slice A5 left.length c5] := ⟨_, rfl⟩
        rw [← hW4] at hS4 HW4 hrun
        have HRUN := Aside0.mk hrun
        have HO4 := Aside0.mk (Kd.S_reads' hS4)
        clear hS4 hoff hrun hW4 hgc hfit
        go_wp2_with ((with_reducible refine gate_ (.store 32 (.tmp 61) (.tmp 60)) rfl ?_); refine wpList_put_run rfl 32 (.tmp 61) (.tmp 60) rfl rfl rfl rfl HRUN.out ?_)
        have hol : (d.set n.toNat left).length = d.length := List.length_set
        have HOL2 := Aside0.mk hol
        have HWF : Aside0 (∀ rows ∈ d.set n.toNat left, ∀ row ∈ rows, ∀ x ∈ row, wfV x) := ⟨by
          intro rs hr
          rcases List.mem_or_eq_of_mem_set hr with h1 | h1
          · exact HWD.out rs h1
          · rw [h1]; exact HWL.out⟩
        have HRF : Aside0 (∀ (m : Nat) (b : Bool) (W : World), m < s.length → Below W4.heap.size W4 W → refsP s (d.set n.toNat left) m (rd_T49 s m).f3 = some b → Calls Tryd.prog 29 #[.slice A0 s.length c0, .slice (some ⟨g, 0, none⟩) d.length cap, .int .i64 m] W fun e w' => e = .returned (.bool b) ∧ Below W.heap.size W w') := ⟨fun m b W hm hW hf => by
          have h1 := refsHold_walk A0 c0 s (some ⟨g, 0, none⟩) cap (d.set n.toNat left) m b W (Kd.C_below HS.out (below_step HW4.out hW)) hc0 (Kd.C_below (hol ▸ HO4.out.2.2) hW) (hol ▸ HO4.out.2.1) HWF.out (by omega) (by omega) (by rw [hol]; have := HLEN.out; omega) hf
          rw [hol] at h1
          exact h1⟩
        have HB40 := Aside0.mk (Below.refl W4.heap.size W4)
        have HC4 : Aside0 (d.length ≤ cap ∧ Kd.C (Kd.slice 51 (Kd.slice 64 k64)) W4 (some ⟨g, 0, none⟩) (d.set n.toNat left).length (d.set n.toNat left)) := ⟨⟨HO4.out.2.1, hol ▸ HO4.out.2.2⟩⟩
        clear hol hii hi HWF HO HOB HB HO4 HRUN
        go_loopg [64] s.length (fun gk v64 wx => ∃ (m : Nat), m + gk = s.length ∧ v64 = .int .i64 m ∧ Aside0 (Below W4.heap.size W4 wx) ∧ Aside0 (refsFromP s (d.set n.toNat left) 0 s = refsFromP s (d.set n.toNat left) m (s.drop m)))
        case atStart => exact ⟨0, by omega, rfl, HB40, ⟨by simp⟩⟩
        case round =>
          clear HB40
          obtain ⟨m, hm, rfl, HB, HE⟩ := hrel
          rename_i gk1
          cases gk with
          | zero =>
            have e : s.drop m = [] := List.drop_eq_nil_of_le (by omega)
            have he := HE.out
            rw [e, refsFromP] at he
            have hbt : b = true := by have := HHB.out; rw [he] at this; exact (Option.some.inj this).symm
            subst hbt
            have hp := HP2.out
            rw [if_pos rfl] at hp
            have hii : ¬ (m : Int) < (s.length : Int) := by omega
            cases hp
            clear he HE HHB HP2 e HRF
            go_wp2
            go_ret2
            exact ⟨some ⟨g, 0, none⟩, cap, by first | rfl | (rw [HOL2.out]; rfl), HOL2.out ▸ HC4.out.1, Kd.C_below (HOL2.out ▸ HC4.out.2) HB.out, below_step HW4.out HB.out⟩
          | succ gk =>
            have hlt : m < s.length := by omega
            have hii : (m : Int) < (s.length : Int) := by omega
            have hdr : s.drop m = s[m] :: s.drop (m + 1) := List.drop_eq_getElem_cons hlt
            have hrd : rd_T49 s (m : Int) = s[m] := by unfold rd_T49; simp [List.getD, hlt]
            have he := HE.out
            rw [hdr, refsFromP] at he
            have hb2 := HHB.out
            rw [he] at hb2
            obtain ⟨b1, hb1, hb3⟩ := Option.bind_eq_some_iff.mp hb2
            have HN := Aside0.mk (HRF.out m b1 wr hlt HB.out (by rw [hrd]; exact hb1))
            have HE2 : Aside0 (refsFromP s (d.set n.toNat left) 0 s = if b1 = true then refsFromP s (d.set n.toNat left) (m + 1) (s.drop (m + 1)) else some false) := ⟨by rw [he, hb1]; rfl⟩
            have HB3 := Aside0.mk hb3
            clear he hb2 hb1 hb3 HE hdr hrd HRF
            cases b1 with
            | false =>
              have hb3 := HB3.out
              rw [if_neg (by decide)] at hb3
              obtain rfl := Option.some.inj hb3
              have hp := HP2.out
              rw [if_neg (by decide)] at hp
              cases hp
              clear hb3 HHB HP2 HE2 HB3
              go_wp2_with (go_at_call 29; refine HN.out.mono ?_; rintro e w6 ⟨rfl, hb6⟩)
              go_ret2
              first
                | exact ⟨_, ⟨_, rfl⟩, HNIL.out _, below_step HW4.out (below_step HB.out hb6)⟩
                | exact ⟨_, _, rfl, Nat.le_refl _, HNIL.out _, below_step HW4.out (below_step HB.out hb6)⟩
            | true =>
              rw [if_pos rfl] at HE2
              go_wp2_with (go_at_call 29; refine HN.out.mono ?_; rintro e w6 ⟨rfl, hb6⟩)
              go_roundg gk
              case measure => omega
              case rel => exact ⟨m + 1, by omega, by first | rfl | (simp; done) | (have := HS.out.2.1; simp; unfold wrap64; omega), ⟨below_step HB.out hb6⟩, HE2⟩
end Go.Proofs.YthgfdnffnbclpaaDoor.PAll
namespace Go.Proofs.YthgfdnffnbclpaaDoor.PAll
open Go.RowKit Go.Proofs.YthgfdnffnbclpaaDoorW.PrintWords Go.Proofs.YthgfdnffnbclpaaDoorW.PrintLast Go.Proofs.YthgfdnffnbclpaaDoorW.PrintMore

theorem refFindG_range (nm : ByteArray) : ∀ (l : List S49) (i : Nat) (n : Int), refFindG nm i l = (n, true) → (i : Int) ≤ n ∧ n < (i + l.length : Nat)
  | [], i, n, h => by rw [refFindG] at h; cases h
  | t :: l, i, n, h => by
    rw [refFindG] at h
    split at h
    · cases h; simp; omega
    · have := refFindG_range nm l (i + 1) n h
      simp at this ⊢; omega
theorem refFindP_range {s : List S49} {nm : ByteArray} {n : Int} (h : refFindP s nm = some (n, true)) : 0 ≤ n ∧ n < (s.length : Int) := by
  unfold refFindP at h
  obtain ⟨v, _, h⟩ := Option.bind_eq_some_iff.mp h
  split at h
  · have := refFindG_range nm s 0 n (Option.some.inj h)
    simp at this; omega
  · cases h
theorem refDataP_len {s : List S49} {d : Data} (h : refDataP s d = some true) : d.length = s.length := by
  unfold refDataP at h
  obtain ⟨v, _, h⟩ := Option.bind_eq_some_iff.mp h
  split at h
  · split at h
    · assumption
    · cases h
  · cases h

end Go.Proofs.YthgfdnffnbclpaaDoor.PAll
namespace Go.Proofs.YthgfdnffnbclpaaDoor.PAll
open Go.RowKit Go.Proofs.YthgfdnffnbclpaaDoorW.PrintWords Go.Proofs.YthgfdnffnbclpaaDoorW.PrintLast Go.Proofs.YthgfdnffnbclpaaDoorW.PrintMore

def refFromP (s : List S49) (d : Data) : Nat → Nat → Option Bool
  | 0, _ => some true
  | g + 1, m => (refRefsP s d m (rd_T49 s m).f3).bind fun b => if b = true then refFromP s d g (m + 1) else some false
def refDelAt (s : List S49) (d : Data) (n : Nat) (gone : List Bool) : Option (Data × Int) :=
  if gone.length = (rd_L13 d n).length then
    (refFromP s (d.set n (leftP (rd_L13 d n) gone)) (s.length - (n + 1)) (n + 1)).bind fun b => if b = true then some (d.set n (leftP (rd_L13 d n) gone), 0) else some ([], 77)
  else some ([], 78)
def refDeleteP (s : List S49) (d : Data) (nm : ByteArray) (gone : List Bool) : Option (Data × Int) :=
  (refDataP s d).bind fun v => if v = true then (refFindP s nm).bind fun p => if p.2 = true then refDelAt s d p.1.toNat gone else some ([], 71) else some ([], 1)
theorem left_take {old : Rows} {gone : List Bool} {i : Nat} (h1 : i < old.length) (h2 : i < gone.length) : leftP (old.take (i + 1)) (gone.take (i + 1)) = leftP (old.take i) (gone.take i) ++ (if gone[i] = true then [] else [old[i]]) := by
  rw [take_snoc h1, take_snoc h2, leftP_snoc _ _ _ _ (by rw [List.length_take, List.length_take]; omega)]
set_option maxHeartbeats 4000000 in
set_option maxRecDepth 100000 in
theorem refDelete_walk (A0 : Option Addr) (c0 : Nat) (s : List S49) (A1 : Option Addr) (c1 : Nat) (d : Data) (nm : ByteArray) (A3 : Option Addr) (c3 : Nat) (gone : List Bool) (r1 : Data) (r2 : Int) (w : World)
    (hS : Kd.C k49 w A0 s.length s) (hc0 : s.length ≤ c0) (hD : Kd.C (Kd.slice 51 (Kd.slice 64 k64)) w A1 d.length d) (hc1 : d.length ≤ c1) (hG : Kd.C Kd.bool w A3 gone.length gone) (hc3 : gone.length ≤ c3)
    (hwd : wfData d) (hsd : refDataP s d = some true → smallData d) (h : refDeleteP s d nm gone = some (r1, r2)) :
    Calls Tryd.prog 17 #[.slice A0 s.length c0, .slice A1 d.length c1, .string nm, .slice A3 gone.length c3] w fun e w' => ∃ (A : Option Addr) (c : Nat), e = .returned (.tuple #[.slice A r1.length c, .int .i64 r2]) ∧ r1.length ≤ c ∧ Kd.C (Kd.slice 51 (Kd.slice 64 k64)) w' A r1.length r1 ∧ Below w.heap.size w w' := by
  have HS := Aside0.mk hS
  have HD := Aside0.mk hD
  have HG := Aside0.mk hG
  have HSD := Aside0.mk hsd
  have hglen := hG.2.1
  have hslen := hS.2.1
  have HNIL : Aside0 (∀ W, Kd.C (Kd.slice 51 (Kd.slice 64 k64)) W none 0 ([] : Data)) := ⟨fun W => C_nil _ W⟩
  unfold refDeleteP at h
  obtain ⟨v, hv, h⟩ := Option.bind_eq_some_iff.mp h
  have HV := Aside0.mk (refData_walk A0 c0 s A1 c1 d v w hS hc0 hD hc1 hwd hv)
  have HVD := Aside0.mk hv
  clear hv
  go_enter Tryd.func17, Tryd.ntmps17
  cases v with
  | false =>
    rw [if_neg (by decide)] at h
    cases h
    clear hS hD hG hwd hsd
    go_wp2_with (go_at_call 8; refine HV.out.mono ?_; rintro e w1 ⟨rfl, hb1⟩)
    go_ret2
    exact ⟨_, _, rfl, Nat.le_refl _, HNIL.out _, hb1⟩
  | true =>
  rw [if_pos rfl] at h
  obtain ⟨⟨ni, is⟩, hf, h⟩ := Option.bind_eq_some_iff.mp h
  have HF : Aside0 (∀ W, Below w.heap.size w W → Calls Tryd.prog 11 #[.slice A0 s.length c0, .string nm] W fun e w' => e = .returned (.tuple #[.int .i64 ni, .bool is]) ∧ Below W.heap.size W w') := ⟨fun W hW => refFind_walk A0 c0 s nm ni is W (Kd.C_below hS hW) hc0 hf⟩
  have hlen := refDataP_len HVD.out
  have HSD2 := Aside0.mk (HSD.out HVD.out)
  cases is with
  | false =>
    rw [if_neg (by simp)] at h
    cases h
    clear hS hD hG hwd hsd hf hlen
    go_wp2_with (first | (go_at_call 8; refine HV.out.mono ?_; rintro e w1 ⟨rfl, hb1⟩) | (go_at_call 11; refine (HF.out _ hb1).mono ?_; rintro e w2 ⟨rfl, hb2⟩))
    go_ret2
    exact ⟨_, _, rfl, Nat.le_refl _, HNIL.out _, below_step hb1 hb2⟩
  | true =>
  rw [if_pos rfl] at h
  have hrange := refFindP_range hf
  obtain ⟨n, rfl⟩ : ∃ n : Nat, ni = (n : Int) := ⟨ni.toNat, by omega⟩
  rw [show ((n : Int), true).1.toNat = n by simp] at h
  have hn : n < s.length := by omega
  have hn0 : (0 : Int) ≤ (n : Int) := by omega
  have hns : (n : Int) < (s.length : Int) := by omega
  have hnd : (n : Int) < (d.length : Int) := by omega
  have HDL := Aside0.mk hlen
  unfold refDelAt at h
  have HP := Aside0.mk h
  clear hS hD hG hwd hsd hf hrange h hlen
  obtain ⟨ad, Ar, cr, hAd, hx, hcr, hCr⟩ := at_L13 HD.out (n : Int) hn0 hnd
  cases hAd
  rw [Int.toNat_natCast] at hx
  have HRH : Aside0 (∀ (d' : Data) (A : Option Addr) (c : Nat) (m : Nat) (b : Bool) (W : World), Below w.heap.size w W → Kd.C (Kd.slice 51 (Kd.slice 64 k64)) W A d'.length d' → d'.length ≤ c → m < s.length → m < d'.length → refRefsP s d' m (rd_T49 s m).f3 = some b → Calls Tryd.prog 22 #[.slice A0 s.length c0, .slice A d'.length c, .int .i64 m] W fun e w' => e = .returned (.bool b) ∧ Below W.heap.size W w') := ⟨fun d' A c m b W hW hC hc hm hmd hb => refRefs_walk A0 c0 s A c d' m b W (Kd.C_below HS.out hW) hc0 hC hc hm hmd hb⟩
  have hmem : rd_L13 d (n : Int) ∈ d := by rw [rdL13 (by omega)]; exact List.getElem_mem _
  have HMEM := Aside0.mk (HSD2.out.2 _ hmem)
  have hgetD : List.getD d n [] = rd_L13 d (n : Int) := by unfold rd_L13; simp
  generalize hold : rd_L13 d (n : Int) = old at *
  clear hold
  have HOL : Aside0 (old.length ≤ 2000000) := ⟨HMEM.out.1⟩
  have HX : Aside0 (∀ W, Below w.heap.size w W → W.cell? (ad.add n) = some (.slice Ar old.length cr)) := ⟨fun W hB => (hB.cell (World.block_lt_of_cell? w _ hx)).trans hx⟩
  have HGD := Aside0.mk hgetD
  have HCR := Aside0.mk hCr
  clear hx hCr hmem hgetD
  by_cases q : gone.length = old.length
  case neg =>
    have hp := HP.out
    rw [if_neg q] at hp
    cases hp
    have q' : ¬ (gone.length : Int) = (old.length : Int) := by omega
    have e1 : ((gone.length : Int) == (old.length : Int)) = false := beq_eq_false_iff_ne.mpr q'
    have e2 : ((gone.length : Int) != (old.length : Int)) = true := by rw [bne, e1]; rfl
    clear q q' HP
    go_wp2_with (first | (go_at_call 8; refine HV.out.mono ?_; rintro e w1 ⟨rfl, hb1⟩) | (go_at_call 11; refine (HF.out _ hb1).mono ?_; rintro e w2 ⟨rfl, hb2⟩; have x0 := HX.out w2 (below_step hb1 hb2)))
    go_ret2
    exact ⟨_, _, rfl, Nat.le_refl _, HNIL.out _, below_step hb1 hb2⟩
  have hp := HP.out
  rw [if_pos q] at hp
  have q' : (gone.length : Int) = (old.length : Int) := by omega
  have e1 : ((gone.length : Int) == (old.length : Int)) = true := beq_iff_eq.mpr q'
  have e2 : ((gone.length : Int) != (old.length : Int)) = false := by rw [bne, e1]; rfl
  have HQ := Aside0.mk q
  have HP2 := Aside0.mk hp
  have HDP : Aside0 (0 < d.length) := ⟨by omega⟩
  have HCD : Aside0 (∀ W, Below w.heap.size w W → Calls Tryd.prog 32 #[.slice (some ad) d.length c1] W fun e w' => ∃ v0_ : Value, e = .returned (v0_) ∧ Kd.S (Kd.slice 51 (Kd.slice 64 k64)) 32 w' W.heap.size (fun _ => True) v0_ d ∧ Below W.heap.size W w') := ⟨fun W hW => refCopyData_walk (some ad) c1 d W (Kd.C_below HD.out hW) hc1 HSD2.out⟩
  clear q q' HP hp
  go_upto_region 9 with (first
    | (go_at_call 8; refine HV.out.mono ?_; rintro e w1 ⟨rfl, hb1⟩)
    | (go_at_call 11; refine (HF.out _ hb1).mono ?_; rintro e w2 ⟨rfl, hb2⟩; have x0 := HX.out w2 (below_step hb1 hb2))
    | (go_at_call 32; refine (HCD.out _ (below_step hb1 hb2)).mono ?_; rintro e w3 ⟨v, rfl, ho, hb3⟩; obtain ⟨g, cap, ev, hg1, hg2, gcells, hgc⟩ := Kd.S_form ho HDP.out; subst ev))
  have HBS := Aside0.mk (below_step hb1 hb2)
  have HB3 := Aside0.mk (below_step (below_step hb1 hb2) hb3)
  have HGW : Aside0 (w2.heap.size ≤ g) := ⟨hg1⟩
  obtain ⟨oki, cc, hcl, hM, hcc, hoki, hH⟩ := Kd.S_lend ho ([] : Rows) (n : Int) hn0 hnd
  obtain ⟨vn, rfl, hRn⟩ := hM
  have hcell := hcc 0 _ rfl
  have hfit : n + 1 ≤ gcells.size := by
    have h9 : w3.cell? ⟨g, n, none⟩ = some vn := by simpa [Kd.slice] using hcell
    have h9 := (blk_cell hgc n).symm.trans h9
    have := (Array.getElem?_eq_some_iff.1 h9).1
    omega
  have hS4 := (Kd.S_seg0 hH hn0 hnd (seg := [.slice none 0 0]) (j := 0) (Nat.le_refl _) (x' := ([] : Rows)) (okp := oki) (Kd.M_row (Kd.R_nil _ _ _ _ _)) (fun k hk => hk)).1
  rw [show ((n : Int).toNat * (Kd.slice 51 (Kd.slice 64 k64)).sz + 0) = n by simp [Kd.slice], Int.toNat_natCast] at hS4
  have hrun := run_store_run (P := Tryd.prog) 32 (.slice none 0 0) [.slice none 0 0] hgc rfl (by kernel_rfl) (by simpa using hfit) (by simp [Value.oneCell'])
  have hW4 : Below w2.heap.size w2 (w3.setCells g n [.slice none 0 0]) := Go.below_setCells hg1 _ _ _ hb3
  generalize (w3.setCells g n [.slice none 0 0]) = W4 at *
  have HRUN := Aside0.mk hrun
  have HW4 := Aside0.mk hW4
  have HO4 := Aside0.mk hS4
  have HCG : Aside0 (List.length d ≤ cap) := ⟨by have := (Kd.S_reads' hS4).2.1; exact this⟩
  clear hRn hcc hoki hH hcell hfit hS4 hrun hW4 hgc hcl hb1 hb2 hb3 ho HCD HV HF x0 e1 e2 HB3 hg1 hg2
  go_wp2_with ((with_reducible refine gate_ (.store 32 (.tmp 39) (.const (Value.slice none 0 0))) rfl ?_); refine wpList_put_run rfl 32 (.tmp 39) (.const (Value.slice none 0 0)) rfl rfl rfl rfl HRUN.out ?_)
  clear HRUN
  go_loopg [13] gone.length (fun gk v13 wx => ∃ (i : Nat), i + gk = gone.length ∧ v13 = .int .i64 i ∧ Aside0 (Kd.S (Kd.slice 51 (Kd.slice 64 k64)) 32 wx w2.heap.size (fun _ => True) (.slice (some ⟨g, 0, none⟩) d.length cap) (d.set n (leftP (old.take i) (gone.take i)))) ∧ Aside0 (Below w2.heap.size w2 wx))
  case atStart => exact ⟨0, by omega, rfl, ⟨by simpa [leftP] using HO4.out⟩, HW4⟩
  case round =>
    clear HO4 HW4
    obtain ⟨i, hi, rfl, HO, HB⟩ := hrel
    cases gk with
    | succ gi =>
      have hii : (i : Int) < (gone.length : Int) := by omega
      have hi0 : (0 : Int) ≤ (i : Int) := by omega
      have hio : (i : Int) < (old.length : Int) := by have := HQ.out; omega
      obtain ⟨ag, hag, hxg⟩ := Kd.at_bool HG.out (i : Int) hi0 hii
      subst hag
      rw [Int.toNat_natCast] at hxg
      replace hxg := ((below_step HBS.out HB.out).cell (World.block_lt_of_cell? w _ hxg)).trans hxg
      have hgi : rdOf false gone (i : Int) = gone[i]'(by omega) := by unfold rdOf; simp [List.getD, show i < gone.length by omega]
      rw [hgi] at hxg
      have HLT := Aside0.mk (left_take (old := old) (gone := gone) (i := i) (by omega) (by omega))
      generalize gone[i]'(by omega) = gb at *
      cases gb with
      | true =>
        have hlt := HLT.out
        rw [if_pos rfl, List.append_nil] at hlt
        have HO2 : Aside0 (Kd.S (Kd.slice 51 (Kd.slice 64 k64)) 32 wr w2.heap.size (fun _ => True) (.slice (some ⟨g, 0, none⟩) d.length cap) (d.set n (leftP (old.take (i + 1)) (gone.take (i + 1))))) := ⟨by rw [hlt]; exact HO.out⟩
        clear hlt HLT hgi
        go_wp2
        go_roundg gi
        case measure => omega
        case rel => exact ⟨i + 1, by omega, ret_n (by omega), HO2, HB⟩
      | false =>
        have hlt := HLT.out
        rw [if_neg (by decide)] at hlt
        have hll : (leftP (old.take i) (gone.take i)).length ≤ 2000000 := by have h9 := leftP_len (old.take i) (gone.take i); rw [List.length_take] at h9; have := HOL.out; omega
        obtain ⟨arow, Aw, cw, hAw, hxw, hcw, hCw⟩ := at_L12 HCR.out (i : Int) hi0 hio
        subst hAw
        rw [Int.toNat_natCast] at hxw
        have hrow : rd_L12 old (i : Int) = old[i]'(by omega) := rdL12 (by omega)
        have hrl : (rd_L12 old (i : Int)).length ≤ 2000000 := by rw [hrow]; exact HMEM.out.2 _ (List.getElem_mem _)
        rw [← hrow] at hlt
        generalize rd_L12 old (i : Int) = row at *
        generalize leftP (old.take i) (gone.take i) = left at *
        have HLT2 := Aside0.mk hlt
        have HCW := Aside0.mk hCw
        obtain ⟨g', cap', ev, hg1, hg2, gcells, hgc⟩ := Kd.S_form HO.out (by rw [List.length_set]; exact HDP.out)
        simp only [Value.slice.injEq, Option.some.injEq, Addr.mk.injEq] at ev
        obtain ⟨⟨rfl, e1, e2⟩, e3, e4⟩ := ev
        clear e1 e2 e3 e4
        obtain ⟨oki, cc, hcl, hM, hcc, hoki, hH⟩ := Kd.S_lend HO.out ([] : Rows) (n : Int) hn0 hnd
        obtain ⟨vn, rfl, hRn⟩ := hM
        have hgd : (d.set n left).getD n [] = left := by rw [List.getD_eq_getElem?_getD, List.getElem?_set_self (by omega)]; rfl
        rw [Int.toNat_natCast, hgd] at hRn
        obtain ⟨An, cn, rfl⟩ := Kd.R_slice hRn
        have hcell := hcc 0 _ rfl
        have hd : wr.cell? ⟨g, n, none⟩ = some (.slice An left.length cn) := by simpa [Kd.slice] using hcell
        have KS : ∀ W, Below w2.heap.size w2 W → W.cell? (ad.add n) = some (.slice (some arow) old.length cr) ∧ W.cell? (arow.add i) = some (.slice Aw row.length cw) := fun W hW => ⟨HX.out W (below_step HBS.out hW), ((below_step HBS.out hW).cell (World.block_lt_of_cell? w _ hxw)).trans hxw⟩
        have HKS := Aside0.mk KS
        have hgne : some g ≠ (Value.slice An left.length cn).ownBlock := fun he => (hoki g (hRn.1 g he.symm)).2 rfl
        have HGNE := Aside0.mk hgne
        have HH0 := Aside0.mk (Kd.H_widen (Kd.H_drew hH))
        have HRN := Aside0.mk (Kd.R_drew hRn)
        have HBD := Aside0.mk (below_drew1 HB.out)
        have HGC : Aside0 (wr.drew.heap[g]? = some (.cells gcells 32 (0, 0))) := ⟨hgc⟩
        have HGN : Aside0 (g < wr.drew.heap.size) := ⟨hg2⟩
        have HLL := Aside0.mk hll
        have HRWL := Aside0.mk hrl
        have hdd : wr.drew.cell? ⟨g, n, none⟩ = some (.slice An left.length cn) ∧ wr.drew.cell? (ad.add n) = some (.slice (some arow) old.length cr) ∧ wr.drew.cell? (arow.add i) = some (.slice Aw row.length cw) := ⟨hd, KS _ HBD.out⟩
        clear hcell hcc hH hRn hoki hgne hd KS hgc hg1 hg2 hlt HLT hgi hrow hgd hCw hxw hll hrl hcl
        go_wp2
        clear hxg
        refine start_ (n := 19) (S := fun W => W.cell? ⟨g, n, none⟩ = some (.slice An left.length cn) ∧ W.cell? (ad.add n) = some (.slice (some arow) old.length cr) ∧ W.cell? (arow.add i) = some (.slice Aw row.length cw)) (ds := [18]) #[false, false, false, false, false, false, false, false, false, false, false, false, false, false, false, false, false, false, false] (by kernel_rfl) rfl rfl hdd (fun hHeld => ?_)
        clear hdd
        generalize wr.drew = W1 at *
        refine pure_ (i := 0) (N := some 51) (v := ?_) (a' := ?_) #[true, false, false, false, false, false, false, false, false, false, false, false, false, false, false, false, false, false, false] rfl rfl (by kernel_rfl) (fun _ _ _ h => h) (Or.inl ⟨by rfl, ?_⟩) ?_ ?_
        rotate_left
        · intro w'; go_simp; with_reducible rfl
        rotate_left
        · simp only [Act.put, List.setIfInBounds_toArray, List.set_cons_zero, List.set_cons_succ, i64_w, i32_w]; rfl
        refine pure_ (i := 1) (N := some 52) (v := ?_) (a' := ?_) #[true, true, false, false, false, false, false, false, false, false, false, false, false, false, false, false, false, false, false] rfl rfl (by kernel_rfl) (fun _ _ _ h => h) (Or.inl ⟨by rfl, ?_⟩) ?_ ?_
        rotate_left
        · intro w'; go_simp; with_reducible rfl
        rotate_left
        · simp only [Act.put, List.setIfInBounds_toArray, List.set_cons_zero, List.set_cons_succ, i64_w, i32_w]; rfl
        refine pure_ (i := 2) (N := some 53) (v := ?_) (a' := ?_) #[true, true, true, false, false, false, false, false, false, false, false, false, false, false, false, false, false, false, false] rfl rfl (by kernel_rfl) (fun _ _ _ h => h) (Or.inl ⟨by rfl, ?_⟩) ?_ ?_
        rotate_left
        · intro w'; go_simp; with_reducible rfl
        rotate_left
        · simp only [Act.put, List.setIfInBounds_toArray, List.set_cons_zero, List.set_cons_succ, i64_w, i32_w]; rfl
        refine pure_ (i := 3) (N := some 54) (v := ?_) (a' := ?_) #[true, true, true, true, false, false, false, false, false, false, false, false, false, false, false, false, false, false, false] rfl rfl (by kernel_rfl) (fun _ _ _ h => h) (Or.inl ⟨by rfl, ?_⟩) ?_ ?_
        rotate_left
        · intro w'; go_simp; with_reducible rfl
        rotate_left
        · simp only [Act.put, List.setIfInBounds_toArray, List.set_cons_zero, List.set_cons_succ, i64_w, i32_w]; rfl
        refine pure_ (i := 4) (N := some 55) (v := ?_) (a' := ?_) #[true, true, true, true, true, false, false, false, false, false, false, false, false, false, false, false, false, false, false] rfl rfl (by kernel_rfl) (fun _ _ _ h => h) (Or.inl ⟨by rfl, ?_⟩) ?_ ?_
        rotate_left
        · intro w'; go_simp; with_reducible rfl
        rotate_left
        · simp only [Act.put, List.setIfInBounds_toArray, List.set_cons_zero, List.set_cons_succ, i64_w, i32_w]; rfl
        refine take_ (i := 5) (N := some 56) (v := ?_) (a' := ?_) #[true, true, true, true, true, true, false, false, false, false, false, false, false, false, false, false, false, false, false] rfl rfl (by kernel_rfl) (fun _ _ _ h => h) (Or.inl ⟨by rfl, ?_⟩) hHeld ?_ ?_
        rotate_left
        · rintro w' ⟨s0, s1, s2⟩; go_simp; with_reducible rfl
        rotate_left
        · simp only [Act.put, List.setIfInBounds_toArray, List.set_cons_zero, List.set_cons_succ, i64_w, i32_w]; rfl
        refine pure_ (i := 7) (N := some 58) (v := ?_) (a' := ?_) #[true, true, true, true, true, true, false, true, false, false, false, false, false, false, false, false, false, false, false] rfl rfl (by kernel_rfl) (fun _ _ _ h => h) (Or.inl ⟨by rfl, ?_⟩) ?_ ?_
        rotate_left
        · intro w'; go_simp; with_reducible rfl
        rotate_left
        · simp only [Act.put, List.setIfInBounds_toArray, List.set_cons_zero, List.set_cons_succ, i64_w, i32_w]; rfl
        refine pure_ (i := 8) (N := some 59) (v := ?_) (a' := ?_) #[true, true, true, true, true, true, false, true, true, false, false, false, false, false, false, false, false, false, false] rfl rfl (by kernel_rfl) (fun _ _ _ h => h) (Or.inl ⟨by rfl, ?_⟩) ?_ ?_
        rotate_left
        · intro w'; go_simp; with_reducible rfl
        rotate_left
        · simp only [Act.put, List.setIfInBounds_toArray, List.set_cons_zero, List.set_cons_succ, i64_w, i32_w]; rfl
        refine pure_ (i := 9) (N := some 60) (v := ?_) (a' := ?_) #[true, true, true, true, true, true, false, true, true, true, false, false, false, false, false, false, false, false, false] rfl rfl (by kernel_rfl) (fun _ _ _ h => h) (Or.inl ⟨by rfl, ?_⟩) ?_ ?_
        rotate_left
        · intro w'; go_simp; with_reducible rfl
        rotate_left
        · simp only [Act.put, List.setIfInBounds_toArray, List.set_cons_zero, List.set_cons_succ, i64_w, i32_w]; rfl
        refine take_ (i := 10) (N := some 61) (v := ?_) (a' := ?_) #[true, true, true, true, true, true, false, true, true, true, true, false, false, false, false, false, false, false, false] rfl rfl (by kernel_rfl) (fun _ _ _ h => h) (Or.inl ⟨by rfl, ?_⟩) hHeld ?_ ?_
        rotate_left
        · rintro w' ⟨s0, s1, s2⟩; go_simp; with_reducible rfl
        rotate_left
        · simp only [Act.put, List.setIfInBounds_toArray, List.set_cons_zero, List.set_cons_succ, i64_w, i32_w]; rfl
        refine pure_ (i := 11) (N := some 62) (v := ?_) (a' := ?_) #[true, true, true, true, true, true, false, true, true, true, true, true, false, false, false, false, false, false, false] rfl rfl (by kernel_rfl) (fun _ _ _ h => h) (Or.inl ⟨by rfl, ?_⟩) ?_ ?_
        rotate_left
        · intro w'; go_simp; with_reducible rfl
        rotate_left
        · simp only [Act.put, List.setIfInBounds_toArray, List.set_cons_zero, List.set_cons_succ, i64_w, i32_w]; rfl
        refine pure_ (i := 12) (N := some 63) (v := ?_) (a' := ?_) #[true, true, true, true, true, true, false, true, true, true, true, true, true, false, false, false, false, false, false] rfl rfl (by kernel_rfl) (fun _ _ _ h => h) (Or.inl ⟨by rfl, ?_⟩) ?_ ?_
        rotate_left
        · intro w'; go_simp; with_reducible rfl
        rotate_left
        · simp only [Act.put, List.setIfInBounds_toArray, List.set_cons_zero, List.set_cons_succ, i64_w, i32_w]; rfl
        refine take_ (i := 13) (N := some 64) (v := ?_) (a' := ?_) #[true, true, true, true, true, true, false, true, true, true, true, true, true, true, false, false, false, false, false] rfl rfl (by kernel_rfl) (fun _ _ _ h => h) (Or.inl ⟨by rfl, ?_⟩) hHeld ?_ ?_
        rotate_left
        · rintro w' ⟨s0, s1, s2⟩; go_simp; with_reducible rfl
        rotate_left
        · simp only [Act.put, List.setIfInBounds_toArray, List.set_cons_zero, List.set_cons_succ, i64_w, i32_w]; rfl
        refine one_ (i := 6) (N := some 57) #[true, true, true, true, true, true, true, true, true, true, true, true, true, true, false, false, false, false, false] rfl rfl (by kernel_rfl) (by decide) (fun K hK => ?_)
        refine Kd.R_lit_step k64 (w0 := W1) W1.heap.size 64 (by rfl) (N := 57) rfl (xs := ([] : List S64)) (inner := []) (ok := fun _ => True) (okp := fun _ => True) ?hr (Reps.none _ _) (fun _ hk => hk) trivial (Below.refl _ _) (Nat.le_refl _) (by simp) ?_
        case hr => first | (go_simp; done) | (go_simp; rfl)
        intro v6 W2 ho6 hb6 hg6 _
        have hs2 := hb6.cell (World.block_lt_of_cell? W1 _ hHeld.1)
        have HS2 : Aside0 (W2.cell? ⟨g, n, none⟩ = some (.slice An left.length cn) ∧ W2.cell? (ad.add n) = some (.slice (some arow) old.length cr) ∧ W2.cell? (arow.add i) = some (.slice Aw row.length cw)) := ⟨hs2.trans hHeld.1, HKS.out _ (below_step HBD.out hb6)⟩
        refine hK.out _ _ HS2.out (fun hHeld2 => ?_)
        clear hK K hs2 hHeld2
        refine norm_ (a' := ?_) ?_ ?_
        rotate_left
        · show Act.put _ (some 57) _ = _; simp only [Act.put, List.setIfInBounds_toArray, List.set_cons_zero, List.set_cons_succ, i64_w, i32_w]; rfl
        refine one_ (i := 14) (N := some 65) #[true, true, true, true, true, true, true, true, true, true, true, true, true, true, true, false, false, false, false] rfl rfl (by kernel_rfl) (by decide) (fun K hK => ?_)
        refine Kd.R_append_rows_step k64 (w0 := W1) W1.heap.size (by rfl) (.tmp 57) (.tmp 64) 51 64 (.agg #[(.int .u8 0), (.int .i64 0), (.string ⟨#[]⟩)]) 32 rfl Tryd.underlying51 info64 rfl (by decide) (by omega) v6 ([] : List S64) row Aw row.length cw (fun _ => True) (fun _ => False) rfl rfl ho6 (Kd.C_below HCW.out (below_step HBS.out (below_step HBD.out hb6))) (fun _ _ h => h) (fun _ h => h.elim) (fun _ _ => trivial) hb6 hb6.size (by have := HRWL.out; simp; omega) ?_
        intro v7 W3 hv7 hb7 hg7 _
        rw [List.nil_append] at hv7
        obtain ⟨A7, c7, e7⟩ := Kd.R_slice hv7
        subst e7
        have hs3 := hb7.cell (World.block_lt_of_cell? W1 _ hHeld.1)
        refine hK.out _ _ ⟨hs3.trans hHeld.1, HKS.out _ (below_step HBD.out hb7)⟩ (fun hHeld3 => ?_)
        clear hK K hs3 ho6 hb6 hg6 HS2 hg7
        refine norm_ (a' := ?_) ?_ ?_
        rotate_left
        · show Act.put _ (some 65) _ = _; simp only [Act.put, List.setIfInBounds_toArray, List.set_cons_zero, List.set_cons_succ, i64_w, i32_w]; rfl
        refine one_ (i := 15) (N := some 66) #[true, true, true, true, true, true, true, true, true, true, true, true, true, true, true, true, false, false, false] rfl rfl (by kernel_rfl) (by decide) (fun K hK => ?_)
        refine event_step (by rfl) (v := .slice (some ⟨W3.heap.size, 0, none⟩) 1 1) (w1 := W3.alloc (.cells #[.slice A7 row.length c7] 51)) ?hr2 ?_
        case hr2 => first | (go_simp; done) | (go_simp; rfl)
        have hba := below_alloc (Below.refl W3.heap.size W3) (.cells #[.slice A7 row.length c7] 51)
        refine hK.out _ _ ⟨(hba.cell (World.block_lt_of_cell? W3 _ hHeld3.1)).trans hHeld3.1, HKS.out _ (below_step (below_step HBD.out hb7) hba)⟩ (fun hHeld4 => ?_)
        clear hK K hba hHeld4
        refine norm_ (a' := ?_) ?_ ?_
        rotate_left
        · show Act.put _ (some 66) _ = _; simp only [Act.put, List.setIfInBounds_toArray, List.set_cons_zero, List.set_cons_succ, i64_w, i32_w]; rfl
        have HB7 := Aside0.mk hb7
        have HV7 := Aside0.mk hv7
        have HB73 : Aside0 (Below w2.heap.size w2 W3) := ⟨below_step HBD.out hb7⟩
        refine one_ (i := 16) (N := some 67) #[true, true, true, true, true, true, true, true, true, true, true, true, true, true, true, true, true, false, false] rfl rfl (by kernel_rfl) (by decide) (fun K hK => ?_)
        refine Kd.R_append_step (Kd.slice 64 k64) (w0 := w2) w2.heap.size (by rfl) (.tmp 56) (.tmp 66) 32 51 (.slice none 0 0) 24 rfl Tryd.underlying32 info51 rfl (by decide) (by omega) (.slice An left.length cn) left row [.slice A7 row.length c7] (fun k => oki k ∨ W1.heap.size ≤ k) (fun k => W1.heap.size ≤ k) rfl rfl ?aP ?aQ ?aF ?aO HB73.out HB73.out.size (by have := HLL.out; omega) ?_
        case aP => exact Kd.M_row (Kd.R_lower (Kd.R_mono (Kd.R_bound HV7.out) (fun _ hk => hk.2.1)) HBD.out.size)
        case aQ => exact fun k hk => ⟨Or.inr hk, fun he => by have := Kd.R_lt HRN.out k he.symm; omega⟩
        case aF => exact fun k hk => Or.inr (Nat.le_trans HB7.out.size hk)
        case aO => exact Kd.R_mono (Kd.R_below HRN.out HB7.out) (fun k hk => Or.inl hk)
        intro v8 W5 hv8 hb8 hg8 _
        generalize hl2 : left ++ [row] = left2 at *
        have HL2 := Aside0.mk hl2
        clear hl2
        obtain ⟨A8, c8, e8⟩ := Kd.R_slice hv8
        subst e8
        have hgc5 : W5.heap[g]? = some (.cells gcells 32 (0, 0)) := (hg8.block g (Nat.lt_of_lt_of_le HGN.out HB7.out.size) HGNE.out).trans ((HB7.out.block g HGN.out).trans HGC.out)
        have hc5 : W5.cell? ⟨g, n, none⟩ = some (.slice An left.length cn) := (blk_cell hgc5 n).trans ((blk_cell HGC.out n).symm.trans hHeld.1)
        have hfit : n + 1 ≤ gcells.size := by
          have h9 := (blk_cell hgc5 n).symm.trans hc5
          have := (Array.getElem?_eq_some_iff.1 h9).1
          omega
        refine hK.out _ _ ⟨hc5, HKS.out _ hb8⟩ (fun hHeld5 => ?_)
        clear hK K
        refine norm_ (a' := ?_) ?_ ?_
        rotate_left
        · show Act.put _ (some 67) _ = _; simp only [Act.put, List.setIfInBounds_toArray, List.set_cons_zero, List.set_cons_succ, i64_w, i32_w]; rfl
        refine pure_ (i := 17) (N := some 68) (v := ?_) (a' := ?_) #[true, true, true, true, true, true, true, true, true, true, true, true, true, true, true, true, true, true, false] rfl rfl (by kernel_rfl) (fun _ _ _ h => h) (Or.inl ⟨by rfl, ?_⟩) ?_ ?_
        rotate_left
        · intro w'; go_simp; with_reducible rfl
        rotate_left
        · simp only [Act.put, List.setIfInBounds_toArray, List.set_cons_zero, List.set_cons_succ, i64_w, i32_w]; rfl
        refine last_ (i := 18) (N := none) #[true, true, true, true, true, true, true, true, true, true, true, true, true, true, true, true, true, true, true] rfl rfl (by kernel_rfl) (by decide) (fun K hK => ?_)
        refine step_store_run (by rfl) 32 (.tmp 68) (.tmp 67) rfl rfl rfl rfl (run_store_run 32 (.slice A8 left2.length c8) [.slice A8 left2.length c8] hgc5 rfl (by kernel_rfl) (by simpa using hfit) (by simp [Value.oneCell'])) ?_
        refine hK.out _ _ ?_
        clear hK K
        refine done_ (by kernel_rfl) ?_
        have hS4 := (Kd.S_seg0 (Kd.H_grown (Kd.H_below HH0.out HB7.out) hg8 (fun k hk => Or.inl (HRN.out.1 k hk))) hn0 hnd (seg := [.slice A8 left2.length c8]) (j := 0) (Nat.le_refl _) (x' := left2) (okp := fun k => oki k ∨ W1.heap.size ≤ k) (Kd.M_row hv8) (fun k hk => hk.elim Or.inl (fun h => Or.inr ⟨trivial, h⟩))).1
        rw [show ((n : Int).toNat * (Kd.slice 51 (Kd.slice 64 k64)).sz + 0) = n by simp [Kd.slice], Int.toNat_natCast, List.set_set] at hS4
        have hW5 : Below w2.heap.size w2 (W5.setCells g n [.slice A8 left2.length c8]) := Go.below_setCells HGW.out _ _ _ hb8
        generalize (W5.setCells g n [.slice A8 left2.length c8]) = W6 at *
        have HO2 : Aside0 (Kd.S (Kd.slice 51 (Kd.slice 64 k64)) 32 W6 w2.heap.size (fun _ => True) (.slice (some ⟨g, 0, none⟩) d.length cap) (d.set n (leftP (old.take (i + 1)) (gone.take (i + 1))))) := ⟨by rw [HLT2.out]; exact hS4⟩
        have HB2 := Aside0.mk hW5
        clear hS4 hW5 hgc5 hc5 hfit hHeld hHeld3 hHeld5 hv7 hb7 hv8 hb8 hg8 HV7 HB7 HB73 HGC HGN HRN HH0 HGNE HO HB HLT2 HL2 HBD
        go_wp2
        go_roundg gi
        case measure => omega
        case rel => exact ⟨i + 1, by omega, ret_n (by omega), HO2, HB2⟩
    | zero =>
      have ho := HO.out
      rw [List.take_of_length_le (by have := HQ.out; omega : old.length ≤ i), List.take_of_length_le (by omega : gone.length ≤ i)] at ho
      have hii : ¬ (i : Int) < (gone.length : Int) := by omega
      obtain ⟨b, hb, hp⟩ := Option.bind_eq_some_iff.mp HP2.out
      have HHB := Aside0.mk hb
      have HP3 := Aside0.mk hp
      generalize leftP old gone = left at *
      have hol : (d.set n left).length = d.length := List.length_set
      obtain ⟨e0, hcap, hC⟩ := Kd.S_reads' ho
      clear e0
      have HC0 := Aside0.mk hC
      have hRH : ∀ (m : Nat) (b : Bool) W, Below w.heap.size w W → Kd.C (Kd.slice 51 (Kd.slice 64 k64)) W (some ⟨g, 0, none⟩) (d.set n left).length (d.set n left) → m < s.length → refRefsP s (d.set n left) m (rd_T49 s m).f3 = some b → Calls Tryd.prog 22 #[.slice A0 s.length c0, .slice (some ⟨g, 0, none⟩) (d.set n left).length cap, .int .i64 m] W fun e w' => e = .returned (.bool b) ∧ Below W.heap.size W w' := fun m b W hW hC hm hb => HRH.out (d.set n left) _ cap m b W hW hC (by rw [hol]; exact hcap) hm (by rw [hol]; have := HDL.out; omega) hb
      have HRH2 : Aside0 (∀ (m : Nat) (b : Bool) W, Below w.heap.size w W → Kd.C (Kd.slice 51 (Kd.slice 64 k64)) W (some ⟨g, 0, none⟩) (d.set n left).length (d.set n left) → m < s.length → refRefsP s (d.set n left) m (rd_T49 s m).f3 = some b → Calls Tryd.prog 22 #[.slice A0 s.length c0, .slice (some ⟨g, 0, none⟩) d.length cap, .int .i64 m] W fun e w' => e = .returned (.bool b) ∧ Below W.heap.size W w') := ⟨by
        intro m b W h1 h2 h3 h4
        have := hRH m b W h1 h2 h3 h4
        rwa [show ((d.set n left).length) = d.length from hol] at this⟩
      have HOL2 := Aside0.mk hol
      have HPB : Aside0 (refFromP s (d.set n left) (s.length - (n + 1)) (n + 1) = some b) := HHB
      have HBW := Aside0.mk (below_step HBS.out HB.out)
      clear ho hb hp hol hC hRH HP2 HO HHB HRH HB
      go_wp2
      clear hii hi
      go_loopg [14] (s.length - (n + 1)) (fun gk v14 wx => ∃ (m : Nat), m + gk = s.length ∧ v14 = .int .i64 m ∧ Aside0 (Below w.heap.size w wx) ∧ Aside0 (Kd.C (Kd.slice 51 (Kd.slice 64 k64)) wx (some ⟨g, 0, none⟩) (d.set n left).length (d.set n left)) ∧ Aside0 (refFromP s (d.set n left) gk m = some b))
      case atStart => exact ⟨n + 1, by omega, ret_n (by omega), HBW, HC0, HPB⟩
      case round =>
        clear HPB HBW HC0
        obtain ⟨m, hm, rfl, HW, HC, HF⟩ := hrel
        cases gk with
        | zero =>
          have hf := HF.out
          rw [refFromP] at hf
          obtain rfl := Option.some.inj hf
          have hp := HP3.out
          rw [if_pos rfl] at hp
          cases hp
          have hii : ¬ (m : Int) < (s.length : Int) := by omega
          clear hf HF HP3
          go_wp2
          go_ret2
          exact ⟨some ⟨g, 0, none⟩, cap, by first | rfl | (rw [HOL2.out]; rfl), hcap, HOL2.out ▸ HC.out, HW.out⟩
        | succ gm =>
          have hii : (m : Int) < (s.length : Int) := by omega
          have hf := HF.out
          rw [refFromP] at hf
          obtain ⟨b1, hb1, hf⟩ := Option.bind_eq_some_iff.mp hf
          have HN := Aside0.mk (HRH2.out m b1 wr HW.out HC.out (by omega) hb1)
          have HF2 := Aside0.mk hf
          clear hf hb1 HF
          cases b1 with
          | false =>
            have hf := HF2.out
            rw [if_neg (by decide)] at hf
            obtain rfl := Option.some.inj hf
            have hp := HP3.out
            rw [if_neg (by decide)] at hp
            cases hp
            clear hf HF2 HP3
            go_wp2_with (go_at_call 22; refine HN.out.mono ?_; rintro e w6 ⟨rfl, hb6⟩)
            go_ret2
            first
              | exact ⟨_, ⟨_, rfl⟩, HNIL.out _, below_step HW.out hb6⟩
              | exact ⟨_, _, rfl, Nat.le_refl _, HNIL.out _, below_step HW.out hb6⟩
          | true =>
            have hf := HF2.out
            rw [if_pos rfl] at hf
            have HF3 := Aside0.mk hf
            clear hf HF2
            go_wp2_with (go_at_call 22; refine HN.out.mono ?_; rintro e w6 ⟨rfl, hb6⟩)
            go_roundg gm
            case measure => omega
            case rel => exact ⟨m + 1, by omega, ret_n (by omega), ⟨below_step HW.out hb6⟩, ⟨Kd.C_below HC.out hb6⟩, HF3⟩
end Go.Proofs.YthgfdnffnbclpaaDoor.PAll
namespace Go.Proofs.YthgfdnffnbclpaaDoor.PAll
open Go.RowKit Go.Proofs.YthgfdnffnbclpaaDoorW.PrintWords Go.Proofs.YthgfdnffnbclpaaDoorW.PrintLast Go.Proofs.YthgfdnffnbclpaaDoorW.PrintMore

theorem dataB_facts {s : List S49} {d : Data} (h : dataB s d = true) : validB s = true ∧ d.length = s.length ∧ dataFitP s d = true ∧ holdsB s d s.length 0 = true := by
  unfold dataB at h
  simp only [Bool.and_eq_true] at h
  exact ⟨h.1, of_decide_eq_true h.2.1, h.2.2.1, h.2.2.2⟩
theorem fit_rows {s : List S49} {d : Data} (h : dataB s d = true) : ∀ n, n < s.length → ∀ row ∈ rd_L13 d (n : Int), row.length = (rd_T49 s (n : Int)).f1.length := by
  obtain ⟨hv, hl, hf, _⟩ := dataB_facts h
  exact fun n hn => rowsFit_len (dataFit_at hf n hn (by omega)).2
theorem small_of {s : List S49} {d : Data} (h : dataB s d = true) : smallData d := by
  obtain ⟨hv, hl, hf, _⟩ := dataB_facts h
  obtain ⟨h16, hat⟩ := validB_at hv
  refine ⟨by omega, fun rows hr => ?_⟩
  obtain ⟨n, hn, rfl⟩ := List.getElem_of_mem hr
  have h1 := dataFit_at hf n (by omega) hn
  have h2 := fit_rows h n (by omega)
  have h3 := (tabB_facts (hat n (by omega))).1
  rw [rdL13 hn] at h1 h2
  exact ⟨by have := h1.1; omega, fun row hrow => by rw [h2 row hrow]; omega⟩
theorem rd13_set {d : Data} {n m : Nat} {x : Rows} (hm : m < d.length) : rd_L13 (d.set n x) (m : Int) = if m = n then x else rd_L13 d (m : Int) := by
  unfold rd_L13
  rw [List.getD_eq_getElem?_getD, List.getD_eq_getElem?_getD, Int.toNat_natCast, List.getElem?_set]
  by_cases e : n = m
  · subst e; simp [hm]
  · rw [if_neg e, if_neg (fun h => e h.symm)]
theorem set_fit {s : List S49} {d : Data} (h : dataB s d = true) {n : Nat} {x : Rows} (hx : ∀ row ∈ x, row.length = (rd_T49 s (n : Int)).f1.length) : ∀ m, m < s.length → ∀ row ∈ rd_L13 (d.set n x) (m : Int), row.length = (rd_T49 s (m : Int)).f1.length := by
  intro m hm row hr
  obtain ⟨_, hl, _, _⟩ := dataB_facts h
  rw [rd13_set (by omega)] at hr
  by_cases e : m = n
  · rw [if_pos e] at hr; rw [e]; exact hx row hr
  · rw [if_neg e] at hr; exact fit_rows h m hm row hr

theorem find_pos {s : List S49} (hv : validB s = true) (nm : ByteArray) : (0 ≤ findP nm 0 s → findB s nm = (findP nm 0 s, true)) ∧ (¬ 0 ≤ findP nm 0 s → findB s nm = (0, false)) := by
  unfold findB
  rw [if_pos hv]
  exact find_G nm s 0
/-! #### Delete -/
def fromB (s : List S49) (d : Data) : Nat → Nat → Bool
  | 0, _ => true
  | g + 1, m => ((rd_T49 s m).f3.all (refHB s d m)) && fromB s d g (m + 1)
def delAtB (s : List S49) (d : Data) (n : Nat) (gone : List Bool) : Data × Int :=
  if gone.length = (rd_L13 d n).length then
    if fromB s (d.set n (leftP (rd_L13 d n) gone)) (s.length - (n + 1)) (n + 1) = true then (d.set n (leftP (rd_L13 d n) gone), 0) else ([], 77)
  else ([], 78)
def delB (s : List S49) (d : Data) (nm : ByteArray) (gone : List Bool) : Data × Int :=
  if dataB s d = true then if (findB s nm).2 = true then delAtB s d (findB s nm).1.toNat gone else ([], 71) else ([], 1)
theorem from_is (s : List S49) (d : Data) (hok : ∀ m, m < s.length → ∀ r ∈ (rd_T49 s (m : Int)).f3, RefOk s d m r) : ∀ (g m : Nat), m + g = s.length → refFromP s d g m = some (fromB s d g m) ∧ refsFromP s d m (s.drop m) = some (fromB s d g m) := by
  intro g
  induction g with
  | zero => intro m hm; rw [List.drop_eq_nil_of_le (by omega)]; exact ⟨rfl, rfl⟩
  | succ g ih =>
    intro m hm
    obtain ⟨h1, h2⟩ := ih (m + 1) (by omega)
    obtain ⟨r1, r2⟩ := refs_is s d m _ (hok m (by omega))
    rw [refFromP, List.drop_eq_getElem_cons (by omega : m < s.length), refsFromP, ← rdT49 (by omega : m < s.length), r1, r2, Option.bind_some, Option.bind_some, h1, h2, fromB]
    cases (rd_T49 s (m : Int)).f3.all (refHB s d m) <;> exact ⟨rfl, rfl⟩
theorem holdsB_at (s : List S49) (d : Data) : ∀ (g i : Nat), i + g = s.length → holdsB s d g i = true → ∀ j, i ≤ j → j < s.length → (rd_T49 s (j : Int)).f3.all (refHB s d j) = true := by
  intro g
  induction g with
  | zero => intro i hi _ j h1 h2; omega
  | succ g ih =>
    intro i hi h j h1 h2
    rw [holdsB] at h
    simp only [Bool.and_eq_true] at h
    by_cases e : j = i
    · rw [e]; exact h.2.1
    · exact ih (i + 1) (by omega) h.2.2 j (by omega) h2
theorem RB_sub {cols key : List Int} {others rows rows' : Rows} (h : RB cols key others rows = true) (hs : ∀ x ∈ rows', x ∈ rows) : RB cols key others rows' = true := by
  unfold RB at h ⊢
  rw [List.all_eq_true] at h ⊢
  exact fun x hx => h x (hs x hx)
theorem ref_before {s : List S49} {n : Nat} (hv : validB s = true) (hn : n < s.length) {r : S75} (hr : r ∈ (rd_T49 s (n : Int)).f3) : 0 ≤ r.f1 ∧ r.f1 < (n : Int) := by
  have hb := (tabB_facts ((validB_at hv).2 n hn)).2.2 r hr
  have hlen : (s.take n).length = n := by rw [List.length_take]; omega
  unfold refB at hb
  rw [hlen] at hb
  split at hb
  · cases hb
  split at hb
  · cases hb
  omega
theorem del_before {s : List S49} {d : Data} (h : dataB s d = true) {n : Nat} (hn : n < s.length) (left : Rows) (hsub : ∀ x ∈ left, x ∈ rd_L13 d (n : Int)) (m : Nat) (hm : m ≤ n) : (rd_T49 s (m : Int)).f3.all (refHB s (d.set n left) m) = true := by
  obtain ⟨hv, hl, hf, hh⟩ := dataB_facts h
  have h1 := holdsB_at s d s.length 0 (by omega) hh m (by omega) (by omega)
  rw [List.all_eq_true] at h1 ⊢
  intro r hr
  have h2 := h1 r hr
  obtain ⟨b1, b2⟩ := ref_before hv (by omega : m < s.length) hr
  unfold refHB at h2 ⊢
  have e1 : rd_L13 (d.set n left) r.f1 = rd_L13 d r.f1 := by
    have := rd13_set (d := d) (n := n) (m := r.f1.toNat) (x := left) (by omega)
    rw [if_neg (by omega), Int.toNat_of_nonneg b1] at this
    exact this
  rw [e1, rd13_set (by omega)]
  by_cases e : m = n
  · rw [if_pos e]; rw [e] at h2; exact RB_sub h2 hsub
  · rw [if_neg e]; exact h2
theorem from_skip {s : List S49} {d : Data} {n : Nat} (hn : n < s.length) (h : ∀ m, m ≤ n → (rd_T49 s (m : Int)).f3.all (refHB s d m) = true) : ∀ (j m : Nat), m + j = n + 1 → fromB s d (s.length - m) m = fromB s d (s.length - (n + 1)) (n + 1) := by
  intro j
  induction j with
  | zero => intro m hm; rw [show m = n + 1 by omega]
  | succ j ih =>
    intro m hm
    rw [show s.length - m = (s.length - (m + 1)) + 1 by omega, fromB, h m (by omega), Bool.true_and]
    exact ih (m + 1) (by omega)
theorem del_ok {s : List S49} {d : Data} (h : dataB s d = true) {n : Nat} (hn : n < s.length) (gone : List Bool) : ∀ m, m < s.length → ∀ r ∈ (rd_T49 s (m : Int)).f3, RefOk s (d.set n (leftP (rd_L13 d n) gone)) m r := by
  obtain ⟨hv, hl, hf, hh⟩ := dataB_facts h
  exact ref_ok hv (by rw [List.length_set]; exact hl) (set_fit h (fun row hr => fit_rows h n hn row (leftP_mem _ _ row hr)))
theorem refDelete_is (s : List S49) (d : Data) (nm : ByteArray) (gone : List Bool) : refDeleteP s d nm gone = some (delB s d nm gone) := by
  unfold refDeleteP delB
  rw [refData_is, Option.bind_some]
  cases h : dataB s d with
  | false => rfl
  | true =>
    rw [if_pos rfl, if_pos rfl, refFind_is, Option.bind_some]
    by_cases q : (findB s nm).2 = true
    · have hr := refFindP_range (s := s) (nm := nm) (n := (findB s nm).1) (by rw [refFind_is, ← q])
      rw [if_pos q, if_pos q]
      have hn : (findB s nm).1.toNat < s.length := by omega
      generalize (findB s nm).1.toNat = n at *
      unfold refDelAt delAtB
      by_cases e : gone.length = (rd_L13 d n).length
      · rw [if_pos e, if_pos e, (from_is s _ (del_ok h hn gone) (s.length - (n + 1)) (n + 1) (by omega)).1, Option.bind_some]
        split <;> rfl
      · rw [if_neg e, if_neg e]
    · rw [if_neg q, if_neg q]
theorem delete_is (s : List S49) (hw : ∀ t ∈ s, wfT t) (d : Data) (nm : ByteArray) (gone : List Bool) : Ev (fun k => deleteP k s d nm gone) (delB s d nm gone) := by
  obtain ⟨K, hK⟩ := data_is s hw d
  refine ⟨K, fun k hk => ?_⟩
  have h := hK k hk
  simp only at h
  show deleteP k s d nm gone = _
  unfold deleteP delB
  rw [h, Option.bind_some]
  cases hd : dataB s d with
  | false => rfl
  | true =>
    obtain ⟨hv, hl, hf, _⟩ := dataB_facts hd
    rw [if_pos rfl, if_pos rfl]
    obtain ⟨f1, f2⟩ := find_pos hv nm
    by_cases q : 0 ≤ findP nm 0 s
    · have hr : findP nm 0 s < (s.length : Int) := by have := findP_range nm s 0; omega
      rw [if_neg (by omega), f1 q, if_pos rfl]
      show _ = some (delAtB s d (findP nm 0 s).toNat gone)
      generalize findP nm 0 s = ni at *
      obtain ⟨n, rfl⟩ : ∃ n : Nat, ni = (n : Int) := ⟨ni.toNat, by omega⟩
      rw [Int.toNat_natCast]
      have hn : n < s.length := by omega
      unfold delAtB
      by_cases e : gone.length = (rd_L13 d n).length
      · have h1 := (from_is s _ (del_ok hd hn gone) s.length 0 (by omega)).2
        have h2 := from_skip (d := d.set n (leftP (rd_L13 d n) gone)) hn (fun m hm => del_before hd hn _ (fun x hx => leftP_mem _ _ x hx) m hm) (n + 1) 0 (by omega)
        rw [List.drop_zero] at h1
        rw [Nat.sub_zero] at h2
        rw [if_pos e, if_pos e, h1, h2, Option.bind_some]
        split <;> rfl
      · rw [if_neg e, if_neg e]
    · rw [if_pos (by omega), f2 q]; rfl
end Go.Proofs.YthgfdnffnbclpaaDoor.PAll
namespace Go.Proofs.YthgfdnffnbclpaaDoor.PAll
open Go.RowKit Go.Proofs.YthgfdnffnbclpaaDoorW.PrintWords Go.Proofs.YthgfdnffnbclpaaDoorW.PrintLast Go.Proofs.YthgfdnffnbclpaaDoorW.PrintMore Go.Proofs.YthgfdnffnbclpaaDoor
theorem wfT_of {t : S49} (h : okT t) : wfT t := by
  obtain ⟨h0, h1, h2, h3, h4⟩ := h
  have e : maxLen = 9223372036854775807 := by decide
  rw [e] at h0 h4
  refine ⟨h0, fun c hc => by have := h1.2 c hc; rw [e] at this; exact this, fun k hk => by have := (h2.2 k hk).1; rw [e] at this; exact this, fun r hr => ?_, h4.1⟩
  obtain ⟨g1, g2⟩ := h3.2 r hr
  rw [e] at g1
  exact ⟨g1, List.all_eq_true.2 g2⟩
theorem wfData_of {d : Data} (h : ∀ rows ∈ d, rows.length ≤ maxLen ∧ ∀ row ∈ rows, okRow row) : wfData d := fun rows hr row hw x hx => ((h rows hr).2 row hw).2 x hx
end Go.Proofs.YthgfdnffnbclpaaDoor.PAll
namespace Go.Proofs.YthgfdnffnbclpaaDoor
open Go.ChangeShapes Go.WideShapes Go.Deep Go.RowKit
open Go.Proofs.YthgfdnffnbclpaaDoorW.PrintWords Go.Proofs.YthgfdnffnbclpaaDoorW.PrintLast Go.Proofs.YthgfdnffnbclpaaDoorW.PrintMore Go.Proofs.YthgfdnffnbclpaaDoor.PAll
end Go.Proofs.YthgfdnffnbclpaaDoor
