import Derived.Test.YthgfdnffnbclpaaGreatDoorSQG15
import Derived.Test.YthgfdnffnbclpaaGreatDoorSQG16
import Derived.Test.YthgfdnffnbclpaaGreatDoorSQG07
import Derived.Test.YthgfdnffnbclpaaGreatDoorSQG14
import Derived.Test.YthgfdnffnbclpaaGreatDoorSQG06
import Derived.Test.YthgfdnffnbclpaaGreatDoorSQG04
import Derived.Lib.SlicesSearch
set_option linter.unusedVariables false
set_option linter.unusedSimpArgs false
namespace Go.Proofs.YthgfdnffnbclpaaGreatDoor.PAll
open Go.RowKit Go.Proofs.YthgfdnffnbclpaaGreatDoorW.PrintWords Go.Proofs.YthgfdnffnbclpaaGreatDoorW.PrintLast Go.Proofs.YthgfdnffnbclpaaGreatDoorW.PrintMore
def leftP : Rows → List Bool → Rows
 | row :: r, g :: q => if g = true then leftP r q else row :: leftP r q
 | _, _ => []
def refsFromP (s : List S49) (d : Data) : Nat → List S49 → Option Bool
 | _, [] => some true
 | m, t :: r => (refsP s d m t.f3).bind fun b => if b = true then refsFromP s d (m + 1) r else some false
def deleteP (k : Nat) (s : List S49) (d : Data) (nm : ByteArray) (gone : List Bool) : Option (Data × Int) :=
 (dataP k s d).bind fun v =>
  if v = true then
   if findP nm 0 s < 0 then some ([], 71)
   else if gone.length = (rd_L13 d (findP nm 0 s)).length then
    (refsFromP s (d.set (findP nm 0 s).toNat (leftP (rd_L13 d (findP nm 0 s)) gone)) 0 s).bind fun b =>
     if b = true then some (d.set (findP nm 0 s).toNat (leftP (rd_L13 d (findP nm 0 s)) gone), 0) else some ([], 77)
   else some ([], 78)
  else some ([], 1)
section
variable {P : Program} {ops : Array Oper} {Q : Exit → Act → World → Prop} {rest : List Oper} {o : Oper} {a : Act} {w : World}
theorem wpList_put_run (hg : o.guard = none) (t : TypeId) (p x : Operand) (hop : o.op = .store t p x) (hN : o.dst = none) {pv u : Value} {w' : World} (hp : a.eval p = pv) (hx : a.eval x = u)
  (hrun : (Instr.storeAt t pv u).run P w = .ok () w') (hK : wpList P ops Q rest a w') : wpList P ops Q (o :: rest) a w := by
 refine wpList_plain hg fun K' hK' => ?_
 unfold Oper.wp
 simp only [execOp, hop, hp, hx, hrun, Result.andThen, Sem.run_bind]
 show K' (a.put o.dst undef) w'
 rw [hN]
 exact hK' _ _ hK
end
theorem leftP_snoc : ∀ (a : Rows) (b : List Bool) (x : List S64) (y : Bool), a.length = b.length → leftP (a ++ [x]) (b ++ [y]) = leftP a b ++ (if y = true then [] else [x])
 | [], [], x, y, _ => by cases y <;> rfl
 | [], _ :: _, _, _, h => by simp at h
 | _ :: _, [], _, _, h => by simp at h
 | a :: a2, b :: b2, x, y, h => by
  have := leftP_snoc a2 b2 x y (by simpa using h)
  show leftP (a :: (a2 ++ [x])) (b :: (b2 ++ [y])) = _
  unfold leftP
  rw [this]
  split
  ·rfl
  ·rfl
theorem leftP_len : ∀ (a : Rows) (b : List Bool), (leftP a b).length ≤ a.length
 | [], b => by simp [leftP]
 | a :: a2, [] => by simp [leftP]
 | a :: a2, b :: b2 => by
  have := leftP_len a2 b2
  unfold leftP
  split
  ·simp; omega
  ·simp; omega
theorem leftP_mem : ∀ (a : Rows) (b : List Bool), ∀ x ∈ leftP a b, x ∈ a
 | [], b, x, h => by simp [leftP] at h
 | a :: a2, [], x, h => by simp [leftP] at h
 | a :: a2, b :: b2, x, h => by
  unfold leftP at h
  split at h
  ·exact List.mem_cons_of_mem _ (leftP_mem a2 b2 x h)
  ·rcases List.mem_cons.1 h with rfl | h
   ·exact List.mem_cons_self
   ·exact List.mem_cons_of_mem _ (leftP_mem a2 b2 x h)
set_option maxHeartbeats 4000000 in
set_option maxRecDepth 100000 in
theorem deleteS_walk (k : Nat) (A0 : Option Addr) (c0 : Nat) (s : List S49) (A1 : Option Addr) (c1 : Nat) (d : Data) (nm : ByteArray) (A3 : Option Addr) (c3 : Nat) (gone : List Bool) (r1 : Data) (r2 : Int) (w : World)
    (hS : Kd.C k49 w A0 s.length s) (hc0 : s.length ≤ c0) (hD : Kd.C (Kd.slice 89 (Kd.slice 87 k64)) w A1 d.length d) (hc1 : d.length ≤ c1) (hG : Kd.C Kd.bool w A3 gone.length gone) (hc3 : gone.length ≤ c3)
    (hwd : wfData d) (hsd : dataP k s d = some true → smallData d) (hL : LaidL w) (h : deleteP k s d nm gone = some (r1, r2)) :
    Calls Tryz.prog 24 #[.slice A0 s.length c0, .slice A1 d.length c1, .string nm, .slice A3 gone.length c3] w fun e w' => ∃ v0 : Value, e = .returned (.tuple #[v0, .int .i64 r2]) ∧ Kd.S (Kd.slice 89 (Kd.slice 87 k64)) 41 w' w.heap.size (fun _ => True) v0 r1 ∧ Below w.heap.size w w' := by
  have HS := Aside0.mk hS
  have HD := Aside0.mk hD
  have HG := Aside0.mk hG
  have HWD := Aside0.mk hwd
  have HSD := Aside0.mk hsd
  have HB0 := Aside0.mk (Below.refl w.heap.size w)
  have HNIL : Aside0 (∀ W, Kd.C (Kd.slice 89 (Kd.slice 87 k64)) W none 0 ([] : Data)) := ⟨fun W => C_nil _ W⟩
  unfold deleteP at h
  obtain ⟨v, hv, h⟩ := Option.bind_eq_some_iff.mp h
  have HV := Aside0.mk (validData_walk k A0 c0 s A1 c1 d v w hS hc0 hD hc1 hwd hL hv)
  have HF : Aside0 (∀ W, Below w.heap.size w W → Calls Tryz.prog 33 #[.slice A0 s.length c0, .string nm] W fun e w' => e = .returned (.int .i64 (findP nm 0 s)) ∧ Below W.heap.size W w') := ⟨fun W hW => scheme_find.calls A0 c0 s nm _ W (Kd.C_below hS hW) hc0 rfl⟩
  have HH := Aside0.mk h
  have HVD := Aside0.mk hv
  clear hS hD hG hwd hsd hL h hv
  go_enter Tryz.func24, Tryz.ntmps24
  cases v with
  | false =>
    have h := HH.out
    rw [if_neg (by decide)] at h
    cases h
    go_wp2_with (go_at_call 29; refine HV.out.mono ?_; rintro e w1 ⟨rfl, hb1⟩)
    go_ret2
    exact ⟨_, rfl, Kd.S_nil _ _ _ _ _, hb1⟩
  | true =>
    have h := HH.out
    rw [if_pos rfl] at h
    have HLEN := Aside0.mk (dataP_len HVD.out)
    have HSD2 := Aside0.mk (HSD.out HVD.out)
    have hrange := findP_range nm s 0
    generalize findP nm 0 s = n at *
    by_cases q : n < 0
    · rw [if_pos q] at h
      cases h
      have d1 : decide (n < 0) = true := decide_eq_true q
      clear q hrange HH
      go_wp2_with (first | (go_at_call 29; refine HV.out.mono ?_; rintro e w1 ⟨rfl, hb1⟩) | (go_at_call 33; refine (HF.out _ hb1).mono ?_; rintro e w2 ⟨rfl, hb2⟩))
      go_ret2
      exact ⟨_, rfl, Kd.S_nil _ _ _ _ _, below_step hb1 hb2⟩
    rw [if_neg q] at h
    have d1 : decide (n < 0) = false := decide_eq_false q
    have hn0 : 0 ≤ n := by omega
    have hns : n < (s.length : Int) := by omega
    have hnd : n < (d.length : Int) := by have := HLEN.out; omega
    clear q hrange HH
    have HP := Aside0.mk h
    clear h
    obtain ⟨ad, Ar, cr, hAd, hx, hcr, hCr⟩ := at_L13 HD.out n hn0 hnd
    cases hAd
    generalize hold : rd_L13 d n = old at *
    have HX : Aside0 (∀ W, Below w.heap.size w W → W.cell? (ad.add n.toNat) = some (.slice Ar old.length cr)) := ⟨fun W hB => (hB.cell (World.block_lt_of_cell? w _ hx)).trans hx⟩
    have HOL : Aside0 (old.length ≤ 2000000) := ⟨by rw [← hold]; unfold rd_L13; have hl : n.toNat < d.length := by omega
                                                    rw [List.getD_eq_getElem?_getD, List.getElem?_eq_getElem hl]; exact (HSD2.out.2 _ (List.getElem_mem hl)).1⟩
    have HOLD := Aside0.mk hold
    clear hx hcr hCr hold
    by_cases q : gone.length = old.length
    case neg =>
      have hp := HP.out
      rw [if_neg q] at hp
      cases hp
      have qi : ¬ ((gone.length : Int) = (old.length : Int)) := by omega
      have d2 : ((gone.length : Int) == (old.length : Int)) = false := beq_eq_false_iff_ne.mpr qi
      have d3 : ((gone.length : Int) != (old.length : Int)) = true := bne_iff_ne.mpr qi
      clear q qi HP
      go_wp2_with (first | (go_at_call 29; refine HV.out.mono ?_; rintro e w1 ⟨rfl, hb1⟩) | (go_at_call 33; refine (HF.out _ hb1).mono ?_; rintro e w2 ⟨rfl, hb2⟩; have x0 := HX.out _ (below_step hb1 hb2)))
      go_ret2
      exact ⟨_, rfl, Kd.S_nil _ _ _ _ _, below_step hb1 hb2⟩
    have hp := HP.out
    rw [if_pos q] at hp
    have HP1 := Aside0.mk hp
    have qi : ((gone.length : Int) = (old.length : Int)) := by omega
    have d2 : ((gone.length : Int) == (old.length : Int)) = true := beq_iff_eq.mpr qi
    have d3 : ((gone.length : Int) != (old.length : Int)) = false := by rw [bne, d2]; rfl
    have HQ := Aside0.mk q
    have HCD : Aside0 (∀ W, Below w.heap.size w W → Calls Tryz.prog 37 #[.slice (some ad) d.length c1] W fun e w' => ∃ v0_ : Value, e = .returned (v0_) ∧ Kd.S (Kd.slice 89 (Kd.slice 87 k64)) 41 w' W.heap.size (fun _ => True) v0_ d ∧ Below W.heap.size W w') := ⟨fun W hW => copiedData_walk (some ad) c1 d W (Kd.C_below HD.out hW) hc1 HSD2.out⟩
    have HDP : Aside0 (0 < d.length) := ⟨by omega⟩
    clear q qi hp HP
    have HMK : Aside0 (∀ W, ∃ W2, (Instr.makeSlice 41 (.int .i64 0) (.int .i64 gone.length)).run Tryz.prog W = .ok (.slice (some ⟨W.heap.size, 0, none⟩) 0 gone.length) W2 ∧ W2.ownsRow W.heap.size 89 1 (.slice (some ⟨W.heap.size, 0, none⟩) 0 gone.length) 0 [] ∧ W.grownBy W2 none) := ⟨fun W => by
      obtain ⟨i0, hi0, hz0, hz1, hz2⟩ := info_parts (P := Tryz.prog) (e := 89) (z := .slice none 0 0) (size := 1) (bytes := 24) (by kernel_rfl)
      have h1 := HQ.out
      have h2 := HOL.out
      exact run_make_own W W.heap.size 41 89 i0 _ 1 Tryz.underlying41 hi0 hz0 hz1 .i64 .i64 gone.length (by rw [hz2]; omega) (by unfold maxLen; omega) (Nat.le_refl _)⟩
    go_wp2_with (first | (go_at_call 29; refine HV.out.mono ?_; rintro e w1 ⟨rfl, hb1⟩) | (go_at_call 33; refine (HF.out _ hb1).mono ?_; rintro e w2 ⟨rfl, hb2⟩; have x0 := HX.out _ (below_step hb1 hb2)) | (go_at_call 37; refine (HCD.out _ (below_step hb1 hb2)).mono ?_; rintro e W1 ⟨v, rfl, ho, hb3⟩; obtain ⟨g, cap, ev, hg1, hg2, gcells, hgc⟩ := Kd.S_form ho HDP.out; subst ev; obtain ⟨oki, cc, hcl, hM, hcc, hoki, hH⟩ := Kd.S_lend ho ([] : Rows) n hn0 hnd; obtain ⟨vn, rfl, hRn⟩ := hM; rw [show List.getD d n.toNat [] = old from HOLD.out] at hRn; obtain ⟨An, cn, rfl⟩ := Kd.R_slice hRn; have hcell0 := hcc 0 _ rfl; have hcell : W1.cell? ⟨g, n.toNat, none⟩ = some (.slice An old.length cn) := (by simpa [Kd.slice] using hcell0); obtain ⟨W2, hmk, hown, hgr⟩ := HMK.out W1; have HBM := Aside0.mk ((Below.refl W1.heap.size W1).grown hgr (Nat.le_refl _) (fun j hj => by cases hj)); have hcell2 := (HBM.out.cell (World.block_lt_of_cell? W1 _ hcell)).trans hcell))
    have HBW1 := Aside0.mk (below_step (below_step hb1 hb2) hb3)
    have HW2S : Aside0 (w2.heap.size ≤ W1.heap.size) := ⟨hb3.size⟩
    have HWS : Aside0 (w.heap.size ≤ w2.heap.size) := ⟨(below_step hb1 hb2).size⟩
    have HRN := Aside0.mk hRn
    have HGC := Aside0.mk hgc
    have HG1 := Aside0.mk hg1
    have HG2 := Aside0.mk hg2
    have HHH := Aside0.mk (Kd.H_widen hH)
    have HCE := Aside0.mk hcell
    have HO0 : Aside0 ((Kd.slice 87 k64).R 89 W2 w2.heap.size (fun k => oki k ∨ W1.heap.size ≤ k) (.slice (some ⟨W1.heap.size, 0, none⟩) 0 gone.length) []) := ⟨fun k hk => Or.inr (by simp [Value.ownBlock] at hk; omega), [], own_weaken hown hb3.size, Reps.none _ _⟩
    clear hRn hgc hg1 hg2 hH hcell hcell0 hcell2 hmk hown hgr hcc hoki ho hb1 hb2 hb3 x0 d2 d3 d1 HCD HDP HMK HV HF
    go_loopg [12, 43] old.length (fun gk v12 v43 wx => ∃ (i : Nat), i + gk = old.length ∧ v43 = .int .i64 i ∧ Aside0 ((Kd.slice 87 k64).R 89 wx w2.heap.size (fun k => oki k ∨ W1.heap.size ≤ k) v12 (leftP (old.take i) (gone.take i))) ∧ Aside0 (∀ k, v12.ownBlock = some k → W1.heap.size ≤ k) ∧ Aside0 (Below W1.heap.size W1 wx))
    case atStart => exact ⟨0, by omega, rfl, by simpa [leftP] using HO0, ⟨fun k hk => by simp [Value.ownBlock] at hk; omega⟩, HBM⟩
    case round =>
      clear HO0 HBM
      obtain ⟨i, hi, rfl, HO, HOB, HB⟩ := hrel
      cases gk with
      | succ gk =>
        have hlt : i < old.length := by omega
        have hltg : i < gone.length := by have := HQ.out; omega
        have hii : (i : Int) < (old.length : Int) := by omega
        have hig : (i : Int) < (gone.length : Int) := by omega
        have hi0 : (0 : Int) ≤ (i : Int) := by omega
        obtain ⟨gn, capn, en, _⟩ := Kd.R_form HRN.out (by omega)
        cases en
        obtain ⟨cc, hcl, hM, hcc⟩ := Kd.R_getA HRN.out ([] : List S64) (i : Int) hi0 hii
        obtain ⟨vr, rfl, hRr⟩ := hM
        obtain ⟨Ai, ci, rfl⟩ := Kd.R_slice hRr
        have hcell := hcc 0 _ rfl
        have hgd : List.getD old (i : Int).toNat [] = old[i] := by simp [List.getD, hlt]
        rw [hgd] at hcell hRr
        have hcell2 : wr.cell? ⟨gn, i, none⟩ = some (.slice Ai old[i].length ci) := by
          have h1 : W1.cell? ⟨gn, i, none⟩ = some (.slice Ai old[i].length ci) := by rw [add_plain] at hcell; simpa [Kd.slice] using hcell
          exact (HB.out.cell (World.block_lt_of_cell? W1 _ h1)).trans h1
        obtain ⟨adg, hAg, hbg⟩ := Kd.at_bool HG.out (i : Int) hi0 hig
        cases hAg
        rw [Int.toNat_natCast] at hbg
        have hgb : rdOf false gone (i : Int) = gone[i] := by unfold rdOf; simp [List.getD, hltg]
        rw [hgb] at hbg
        have hBw := below_step HBW1.out HB.out
        replace hbg := (hBw.cell (World.block_lt_of_cell? w _ hbg)).trans hbg
        have HTL : Aside0 (leftP (old.take (i + 1)) (gone.take (i + 1)) = leftP (old.take i) (gone.take i) ++ (if gone[i] = true then [] else [old[i]])) := ⟨by
          rw [take_snoc hlt, take_snoc hltg]
          exact leftP_snoc _ _ _ _ (by rw [List.length_take, List.length_take]; omega)⟩
        have HPL : Aside0 ((leftP (old.take i) (gone.take i)).length ≤ 2000000) := ⟨by
          have := leftP_len (old.take i) (gone.take i)
          have h2 := HOL.out
          rw [List.length_take] at this
          omega⟩
        have HM := Aside0.mk (Kd.M_row hRr)
        clear hcell hcc hRr hgd hgb hBw
        generalize old[i] = row at *
        generalize leftP (old.take i) (gone.take i) = pre at *
        cases hgi : gone[i] with
        | true =>
          rw [hgi] at hbg HTL
          rw [if_pos rfl, List.append_nil] at HTL
          clear hgi
          go_wp2
          go_roundg gk
          case measure => omega
          case rel => exact ⟨i + 1, by omega, by first | rfl | (simp; done) | (have := HOL.out; simp; unfold wrap64; omega), ⟨by rw [HTL.out]; exact HO.out⟩, HOB, HB⟩
        | false =>
          rw [hgi] at hbg HTL
          rw [if_neg (by decide)] at HTL
          clear hgi
          have hp_ : (Kd.slice 87 k64).M wr w2.heap.size (fun k => oki k ∧ k < W1.heap.size) row [.slice Ai row.length ci] := (Kd.slice 87 k64).M_mono (fun k hk => ⟨hk.1.1, hk.2.2.1⟩) (Kd.M_below ((Kd.slice 87 k64).M_bound HM.out) HB.out)
          have HPP := Aside0.mk hp_
          have hl24 : (pre.length + 1) * 24 ≤ 140737488355328 := by have := HPL.out; omega
          have HBS : Aside0 (W1.heap.size ≤ wr.heap.size) := ⟨HB.out.size⟩
          clear hp_
          go_wp2_with ((with_reducible refine gate_builtin (b := .append) (xs := #[.tmp 53, .tmp 55]) rfl ?_); at_builtin; refine Kd.R_append (Kd.slice 87 k64) (w0 := wr) w2.heap.size rfl (.tmp 53) (.tmp 55) 41 89 (.slice none 0 0) 24 rfl Tryz.underlying41 info89 rfl (by decide) (by omega) u12 pre row [.slice Ai row.length ci] (fun k => oki k ∨ W1.heap.size ≤ k) (fun k => oki k ∧ k < W1.heap.size) rfl rfl HPP.out (fun k hk => ⟨Or.inl hk.1, fun he => by have := HOB.out k he.symm; omega⟩) (fun k hk => Or.inr (Nat.le_trans HBS.out hk)) HO.out (Below.refl _ _) (Nat.le_trans HW2S.out HBS.out) hl24 ?_; intro v1 w3 hv1 _ hg3 hat3)
          go_roundg gk
          case measure => omega
          case rel => exact ⟨i + 1, by omega, by first | rfl | (simp; done) | (have := HOL.out; simp; unfold wrap64; omega), ⟨by rw [HTL.out]; exact hv1⟩, ⟨fun k hk => by
            rcases hat3 with h | ⟨b, h, hle⟩
            · exact HOB.out k (h ▸ hk)
            · rw [h] at hk; injection hk with hk; have := HBS.out; omega⟩, ⟨HB.out.grown hg3 HBS.out (fun j hj => HOB.out j hj)⟩⟩
      | zero =>
        have e1 : old.take i = old := List.take_of_length_le (by omega)
        have e2 : gone.take i = gone := List.take_of_length_le (by have := HQ.out; omega)
        rw [e1, e2] at HO
        have hii : ¬ (i : Int) < (old.length : Int) := by omega
        obtain ⟨b, hb, hp⟩ := Option.bind_eq_some_iff.mp HP1.out
        have hwfl : ∀ row ∈ leftP old gone, ∀ x ∈ row, wfV x := by
          intro row hr
          have hl : n.toNat < d.length := by omega
          have : old ∈ d := by rw [← HOLD.out]; unfold rd_L13; rw [List.getD_eq_getElem?_getD, List.getElem?_eq_getElem hl]; exact List.getElem_mem hl
          exact HWD.out _ this row (leftP_mem _ _ row hr)
        have HWL := Aside0.mk hwfl
        generalize leftP old gone = left at *
        have HHB := Aside0.mk hb
        have HP2 := Aside0.mk hp
        obtain ⟨A5, c5, e5⟩ := Kd.R_slice HO.out
        subst e5
        clear e1 e2 hb hp hwfl HP1
        have hgc : wr.heap[g]? = some (.cells gcells 41 (0, 0)) := (HB.out.block g HG2.out).trans HGC.out
        have hfit : n.toNat + 1 ≤ gcells.size := by
          have h2 := (blk_cell HGC.out n.toNat).symm.trans HCE.out
          have := (Array.getElem?_eq_some_iff.1 h2).1
          omega
        have hS4 := (Kd.S_seg0 (Kd.H_below HHH.out HB.out) hn0 hnd (seg := [.slice A5 left.length c5]) (j := 0) (Nat.le_refl _) (x' := left) (okp := fun k => oki k ∨ W1.heap.size ≤ k) (Kd.M_row HO.out) (fun k hk => hk.elim Or.inl (fun h => Or.inr ⟨trivial, h⟩))).1
        have hoff : n.toNat * (Kd.slice 89 (Kd.slice 87 k64)).sz + 0 = n.toNat := by simp [Kd.slice]
        rw [hoff] at hS4
        have HW4 : Aside0 (Below w.heap.size w (wr.setCells g n.toNat [.slice A5 left.length c5])) := ⟨Go.below_setCells (Nat.le_trans HWS.out HG1.out) _ _ _ (below_step HBW1.out HB.out)⟩
        have hrun := run_store_run (P := Tryz.prog) 41 (.slice A5 left.length c5) [.slice A5 left.length c5] hgc rfl (by kernel_rfl) (by simpa using hfit) (by simp [Value.oneCell'])
        obtain ⟨W4, hW4⟩ : ∃ W4, W4 = wr.setCells g n.toNat [.slice A5 left.length c5] := ⟨_, rfl⟩
        rw [← hW4] at hS4 HW4 hrun
        have HRUN := Aside0.mk hrun
        have HS4 := Aside0.mk hS4; have HO4 := Aside0.mk (Kd.S_reads' hS4)
        clear hS4 hoff hrun hW4 hgc hfit
        go_wp2_with ((with_reducible refine gate_ (.store 41 (.tmp 61) (.tmp 60)) rfl ?_); refine wpList_put_run rfl 41 (.tmp 61) (.tmp 60) rfl rfl rfl rfl HRUN.out ?_)
        have hol : (d.set n.toNat left).length = d.length := List.length_set
        have HOL2 := Aside0.mk hol
        have HWF : Aside0 (∀ rows ∈ d.set n.toNat left, ∀ row ∈ rows, ∀ x ∈ row, wfV x) := ⟨by
          intro rs hr
          rcases List.mem_or_eq_of_mem_set hr with h1 | h1
          · exact HWD.out rs h1
          · rw [h1]; exact HWL.out⟩
        have HRF : Aside0 (∀ (m : Nat) (b : Bool) (W : World), m < s.length → Below W4.heap.size W4 W → refsP s (d.set n.toNat left) m (rd_T49 s m).f3 = some b → Calls Tryz.prog 73 #[.slice A0 s.length c0, .slice (some ⟨g, 0, none⟩) d.length cap, .int .i64 m] W fun e w' => e = .returned (.bool b) ∧ Below W.heap.size W w') := ⟨fun m b W hm hW hf => by
          have h1 := refsHold_walk A0 c0 s (some ⟨g, 0, none⟩) cap (d.set n.toNat left) m b W (Kd.C_below HS.out (below_step HW4.out hW)) hc0 (Kd.C_below (hol ▸ HO4.out.2.2) hW) (hol ▸ HO4.out.2.1) HWF.out (by omega) (by omega) (by rw [hol]; have := HLEN.out; omega) hf
          rw [hol] at h1
          exact h1⟩
        have HB40 := Aside0.mk (Below.refl W4.heap.size W4)
        have HC4 : Aside0 (d.length ≤ cap ∧ Kd.C (Kd.slice 89 (Kd.slice 87 k64)) W4 (some ⟨g, 0, none⟩) (d.set n.toNat left).length (d.set n.toNat left)) := ⟨⟨HO4.out.2.1, hol ▸ HO4.out.2.2⟩⟩
        clear hol hii hi HWF HO HOB HB HO4 HRUN
        go_loopg [64] s.length (fun gk v64 wx => ∃ (m : Nat), m + gk = s.length ∧ v64 = .int .i64 m ∧ Aside0 (Below W4.heap.size W4 wx) ∧ Aside0 (refsFromP s (d.set n.toNat left) 0 s = refsFromP s (d.set n.toNat left) m (s.drop m)))
        case atStart => exact ⟨0, by omega, rfl, HB40, ⟨by simp⟩⟩
        case round =>
          clear HB40
          obtain ⟨m, hm, rfl, HB, HE⟩ := hrel
          rename_i gk1
          cases gk with
          | zero =>
            have e : s.drop m = [] := List.drop_eq_nil_of_le (by omega)
            have he := HE.out
            rw [e, refsFromP] at he
            have hbt : b = true := by have := HHB.out; rw [he] at this; exact (Option.some.inj this).symm
            subst hbt
            have hp := HP2.out
            rw [if_pos rfl] at hp
            have hii : ¬ (m : Int) < (s.length : Int) := by omega
            cases hp
            clear he HE HHB HP2 e HRF
            go_wp2
            go_ret2
            exact ⟨_, rfl, Kd.S_below (Kd.S_lower HS4.out HWS.out) HB.out, below_step HW4.out HB.out⟩
          | succ gk =>
            have hlt : m < s.length := by omega
            have hii : (m : Int) < (s.length : Int) := by omega
            have hdr : s.drop m = s[m] :: s.drop (m + 1) := List.drop_eq_getElem_cons hlt
            have hrd : rd_T49 s (m : Int) = s[m] := by unfold rd_T49; simp [List.getD, hlt]
            have he := HE.out
            rw [hdr, refsFromP] at he
            have hb2 := HHB.out
            rw [he] at hb2
            obtain ⟨b1, hb1, hb3⟩ := Option.bind_eq_some_iff.mp hb2
            have HN := Aside0.mk (HRF.out m b1 wr hlt HB.out (by rw [hrd]; exact hb1))
            have HE2 : Aside0 (refsFromP s (d.set n.toNat left) 0 s = if b1 = true then refsFromP s (d.set n.toNat left) (m + 1) (s.drop (m + 1)) else some false) := ⟨by rw [he, hb1]; rfl⟩
            have HB3 := Aside0.mk hb3
            clear he hb2 hb1 hb3 HE hdr hrd HRF
            cases b1 with
            | false =>
              have hb3 := HB3.out
              rw [if_neg (by decide)] at hb3
              obtain rfl := Option.some.inj hb3
              have hp := HP2.out
              rw [if_neg (by decide)] at hp
              cases hp
              clear hb3 HHB HP2 HE2 HB3
              go_wp2_with (go_at_call 73; refine HN.out.mono ?_; rintro e w6 ⟨rfl, hb6⟩)
              go_ret2
              exact ⟨_, rfl, Kd.S_nil _ _ _ _ _, below_step HW4.out (below_step HB.out hb6)⟩
            | true =>
              rw [if_pos rfl] at HE2
              go_wp2_with (go_at_call 73; refine HN.out.mono ?_; rintro e w6 ⟨rfl, hb6⟩)
              go_roundg gk
              case measure => omega
              case rel => exact ⟨m + 1, by omega, by first | rfl | (simp; done) | (have := HS.out.2.1; simp; unfold wrap64; omega), ⟨below_step HB.out hb6⟩, HE2⟩
theorem delete_walk (k : Nat) (A0 : Option Addr) (c0 : Nat) (s : List S49) (A1 : Option Addr) (c1 : Nat) (d : Data) (nm : ByteArray) (A3 : Option Addr) (c3 : Nat) (gone : List Bool) (r1 : Data) (r2 : Int) (w : World)
  (hS : Kd.C k49 w A0 s.length s) (hc0 : s.length ≤ c0) (hD : Kd.C (Kd.slice 89 (Kd.slice 87 k64)) w A1 d.length d) (hc1 : d.length ≤ c1) (hG : Kd.C Kd.bool w A3 gone.length gone) (hc3 : gone.length ≤ c3)
  (hwd : wfData d) (hsd : dataP k s d = some true → smallData d) (hL : LaidL w) (h : deleteP k s d nm gone = some (r1, r2)) :
  Calls Tryz.prog 24 #[.slice A0 s.length c0, .slice A1 d.length c1, .string nm, .slice A3 gone.length c3] w fun e w' => ∃ (A : Option Addr) (c : Nat), e = .returned (.tuple #[.slice A r1.length c, .int .i64 r2]) ∧ r1.length ≤ c ∧ Kd.C (Kd.slice 89 (Kd.slice 87 k64)) w' A r1.length r1 ∧ Below w.heap.size w w' := by
 refine (deleteS_walk k A0 c0 s A1 c1 d nm A3 c3 gone r1 r2 w hS hc0 hD hc1 hG hc3 hwd hsd hL h).mono ?_
 rintro e w' ⟨v0, rfl, hv, hb⟩
 obtain ⟨A, c, rfl, hl, hC⟩ := Kd.S_reads hv
 exact ⟨A, c, rfl, hl, hC, hb⟩
end Go.Proofs.YthgfdnffnbclpaaGreatDoor.PAll
namespace Go.Proofs.YthgfdnffnbclpaaGreatDoor.PAll
open Go.RowKit Go.Proofs.YthgfdnffnbclpaaGreatDoorW.PrintWords Go.Proofs.YthgfdnffnbclpaaGreatDoorW.PrintLast Go.Proofs.YthgfdnffnbclpaaGreatDoorW.PrintMore
theorem refFindG_range (nm : ByteArray) : ∀ (l : List S49) (i : Nat) (n : Int), refFindG nm i l = (n, true) → (i : Int) ≤ n ∧ n < (i + l.length : Nat)
 | [], i, n, h => by rw [refFindG] at h; cases h
 | t :: l, i, n, h => by
  rw [refFindG] at h
  split at h
  ·cases h; simp; omega
  ·have := refFindG_range nm l (i + 1) n h
   simp at this ⊢; omega
theorem refFindP_range {s : List S49} {nm : ByteArray} {n : Int} (h : refFindP s nm = some (n, true)) : 0 ≤ n ∧ n < (s.length : Int) := by
 unfold refFindP at h
 obtain ⟨v, _, h⟩ := Option.bind_eq_some_iff.mp h
 split at h
 ·have := refFindG_range nm s 0 n (Option.some.inj h)
  simp at this; omega
 ·cases h
def placeG (v : Bool) (s : List S49) (nm cn : ByteArray) : Int × Int × Int :=
 if v = true then (if findP nm 0 s < 0 then (0, 0, 71) else if colP cn 0 (rd_T49 s (findP nm 0 s)).f1 < 0 then (0, 0, 71) else (findP nm 0 s, colP cn 0 (rd_T49 s (findP nm 0 s)).f1, 0)) else (0, 0, 1)
theorem placeG_range {v : Bool} {s : List S49} {nm cn : ByteArray} {n c : Int} (h : placeG v s nm cn = (n, c, 0)) : v = true ∧ 0 ≤ n ∧ n < s.length ∧ 0 ≤ c ∧ c < (rd_T49 s n).f1.length := by
 unfold placeG at h
 cases v with
 | false => rw [if_neg (by decide)] at h; cases h
 | true =>
  rw [if_pos rfl] at h
  have h1 := findP_range nm s 0
  split at h
  ·cases h
  ·have h2 := colP_range cn (rd_T49 s (findP nm 0 s)).f1 0
   split at h
   ·cases h
   ·simp only [Prod.mk.injEq, and_true] at h
    obtain ⟨e1, e2⟩ := h
    subst e1 e2
    exact ⟨rfl, by omega, by omega, by omega, by omega⟩
set_option maxRecDepth 100000 in
theorem place_walk (k : Nat) (A0 : Option Addr) (c0 : Nat) (s : List S49) (nm cn : ByteArray) (v : Bool) (w : World) (hS : Kd.C k49 w A0 s.length s) (hc0 : s.length ≤ c0) (hv : scheme_Valid.f k s = some v) (hL : LaidL w) :
  Calls Tryz.prog 44 #[.slice A0 s.length c0, .string nm, .string cn] w fun e w' => e = .returned (.tuple #[.int .i64 (placeG v s nm cn).1, .int .i64 (placeG v s nm cn).2.1, .int .i64 (placeG v s nm cn).2.2]) ∧ Below w.heap.size w w' := by
 have HV := Aside0.mk (scheme_Valid.calls k A0 c0 s v w hS hc0 hv hL)
 have HF : Aside0 (∀ W, Below w.heap.size w W → Calls Tryz.prog 33 #[.slice A0 s.length c0, .string nm] W fun e w' => e = .returned (.int .i64 (findP nm 0 s)) ∧ Below W.heap.size W w') := ⟨fun W hW => scheme_find.calls A0 c0 s nm _ W (Kd.C_below hS hW) hc0 rfl⟩
 have HS := Aside0.mk hS
 have hrange := findP_range nm s 0
 clear hS hv hL
 unfold placeG
 generalize hn : findP nm 0 s = n at *
 cases v with
 | false =>
  rw [if_neg (by decide)]
  go_enter Tryz.func44, Tryz.ntmps44
  go_wp2_with (go_at_call 28; refine HV.out.mono ?_; rintro e w1 ⟨rfl, hb1⟩)
  go_ret3
  exact ⟨rfl, hb1⟩
 | true =>
  rw [if_pos rfl]
  by_cases q : n < 0
  ·rw [if_pos q]
   have d1 : decide (n < 0) = true := decide_eq_true q
   clear hn hrange q
   go_enter Tryz.func44, Tryz.ntmps44
   go_wp2_with (first | (go_at_call 28; refine HV.out.mono ?_; rintro e w1 ⟨rfl, hb1⟩) | (go_at_call 33; refine (HF.out _ hb1).mono ?_; rintro e w2 ⟨rfl, hb2⟩))
   go_ret3
   exact ⟨rfl, below_step hb1 hb2⟩
  ·rw [if_neg q]
   have d1 : decide (n < 0) = false := decide_eq_false q
   have hn0 : 0 ≤ n := by omega
   have hns : n < (s.length : Int) := by omega
   obtain ⟨aa, P1, p1, P2, p2, P3, p3, P4, p4, haa, z0, z1, z2, z3, z4, m1, C1, m2, C2, m3, C3, m4, C4⟩ := at_T49 HS.out n hn0 hns
   subst haa
   have HC : Aside0 (∀ W, Below w.heap.size w W → Calls Tryz.prog 91 #[.agg #[.string (rd_T49 s n).f0, .slice P1 (rd_T49 s n).f1.length p1, .slice P2 (rd_T49 s n).f2.length p2, .slice P3 (rd_T49 s n).f3.length p3, .slice P4 (rd_T49 s n).f4.length p4], .string cn] W fun e w' => e = .returned (.int .i64 (colP cn 0 (rd_T49 s n).f1)) ∧ Below W.heap.size W w') := ⟨fun W hW => column_walk _ P1 p1 _ P2 _ p2 P3 _ p3 P4 _ p4 cn W (Kd.C_below C1 hW) m1⟩
   generalize rd_T49 s n = t at *
   have HK : Aside0 (∀ W, Below w.heap.size w W → W.cell? (aa.add (n.toNat * 5)) = some (.string t.f0) ∧ W.cell? ⟨(aa.add (n.toNat * 5)).block, (aa.add (n.toNat * 5)).off + 1, none⟩ = some (.slice P1 t.f1.length p1) ∧ W.cell? ⟨(aa.add (n.toNat * 5)).block, (aa.add (n.toNat * 5)).off + 2, none⟩ = some (.slice P2 t.f2.length p2) ∧ W.cell? ⟨(aa.add (n.toNat * 5)).block, (aa.add (n.toNat * 5)).off + 3, none⟩ = some (.slice P3 t.f3.length p3) ∧ W.cell? ⟨(aa.add (n.toNat * 5)).block, (aa.add (n.toNat * 5)).off + 4, none⟩ = some (.slice P4 t.f4.length p4)) := ⟨fun W hW => ⟨(hW.cell (World.block_lt_of_cell? w _ z0)).trans z0, (hW.cell (World.block_lt_of_cell? w _ z1)).trans z1, (hW.cell (World.block_lt_of_cell? w _ z2)).trans z2, (hW.cell (World.block_lt_of_cell? w _ z3)).trans z3, (hW.cell (World.block_lt_of_cell? w _ z4)).trans z4⟩⟩
   clear z0 z1 z2 z3 z4 m1 C1 m2 C2 m3 C3 m4 C4 hn hrange q
   generalize colP cn 0 t.f1 = c at *
   by_cases q2 : c < 0
   ·rw [if_pos q2]
    have d2 : decide (c < 0) = true := decide_eq_true q2
    clear q2
    go_enter Tryz.func44, Tryz.ntmps44
    go_wp2_with (first | (go_at_call 28; refine HV.out.mono ?_; rintro e w1 ⟨rfl, hb1⟩) | (go_at_call 33; refine (HF.out _ hb1).mono ?_; rintro e w2 ⟨rfl, hb2⟩; obtain ⟨y0, y1, y2, y3, y4⟩ := HK.out _ (below_step hb1 hb2)) | (go_at_call 91; refine (HC.out _ (below_step hb1 hb2)).mono ?_; rintro e w3 ⟨rfl, hb3⟩))
    go_ret3
    exact ⟨rfl, below_step (below_step hb1 hb2) hb3⟩
   ·rw [if_neg q2]
    have d2 : decide (c < 0) = false := decide_eq_false q2
    clear q2
    go_enter Tryz.func44, Tryz.ntmps44
    go_wp2_with (first | (go_at_call 28; refine HV.out.mono ?_; rintro e w1 ⟨rfl, hb1⟩) | (go_at_call 33; refine (HF.out _ hb1).mono ?_; rintro e w2 ⟨rfl, hb2⟩; obtain ⟨y0, y1, y2, y3, y4⟩ := HK.out _ (below_step hb1 hb2)) | (go_at_call 91; refine (HC.out _ (below_step hb1 hb2)).mono ?_; rintro e w3 ⟨rfl, hb3⟩))
    go_ret3
    exact ⟨rfl, below_step (below_step hb1 hb2) hb3⟩
theorem R_num {W : World} {base : Nat} {ok : Nat → Prop} {g n cap : Nat} {xs : List Int} (h : Kd.R (Kd.int .i64) 3 W base ok (.slice (some ⟨g, 0, none⟩) n cap) xs) (i : Nat) (hi : i < xs.length) :
  W.cell? ⟨g, i, none⟩ = some (.int .i64 (xs.getD i 0)) ∧ W.frozen? ⟨g, i, none⟩ = false ∧ ∀ u : Int, Kd.R (Kd.int .i64) 3 (W.setCell ⟨g, i, none⟩ (.int .i64 u)) base ok (.slice (some ⟨g, 0, none⟩) n cap) (xs.set i u) := by
 have hn := (Kd.R_reads' h).1
 obtain ⟨c, hcl, hM, hcc⟩ := Kd.R_getA h (0 : Int) (i : Int) (by omega) (by omega)
 have hM2 : c = [.int .i64 (xs.getD i 0)] := by rw [Int.toNat_natCast] at hM; exact hM
 subst hM2
 have h1 := hcc 0 _ rfl
 rw [add_plain] at h1
 have h2 : W.cell? ⟨g, i, none⟩ = some (.int .i64 (xs.getD i 0)) := by
  have e : ((i : Int).toNat * (Kd.int .i64).sz + 0) = i := by rw [Int.toNat_natCast]; exact Nat.mul_one i
  rw [e] at h1; exact h1
 obtain ⟨g', cap', ev, _, _, cells, hgc⟩ := Kd.R_form h (by omega)
 simp only [Value.slice.injEq, Option.some.injEq, Addr.mk.injEq, and_true] at ev
 obtain ⟨⟨rfl, _⟩, _, _⟩ := ev
 refine ⟨h2, blk_frozen hgc _, fun u => ?_⟩
 obtain ⟨s1, s2⟩ := Kd.R_seg h (i : Int) (by omega) (by omega) (c := [.int .i64 (xs.getD i 0)]) (seg := [.int .i64 u]) (j := 0) rfl (fun j q hj => by have := hcc j q hj; rwa [add_plain] at this) (by show 0 + 1 ≤ 1; omega) (x' := u) (okp := fun _ => False) rfl (fun k hk => hk.elim)
 have e : ((i : Int).toNat * (Kd.int .i64).sz + 0) = i := by rw [Int.toNat_natCast]; exact Nat.mul_one i
 rw [e, Int.toNat_natCast] at s1
 exact s1
def setIx (t : S49) (l : List Int) : S49 := ⟨t.f0, t.f1, t.f2, t.f3, l⟩
theorem S_ix {W : World} {base : Nat} {ok : Nat → Prop} {g n cap : Nat} {s : List S49} (h : Kd.S k49a 72 W base ok (.slice (some ⟨g, 0, none⟩) n cap) s) (m : Nat) (t : S49) (hm : s[m]? = some t) :
  ∃ (okx : Nat → Prop) (A4 : Option Addr) (c4 : Nat), W.cell? ⟨g, m * 5 + 4, none⟩ = some (.slice A4 t.f4.length c4) ∧ Kd.R (Kd.int .i64) 3 W base okx (.slice A4 t.f4.length c4) t.f4 ∧ (∀ k, okx k → ok k ∧ k ≠ g) ∧ g < W.heap.size ∧ base ≤ g ∧
   ∀ (W1 : World) (l : List Int) (v : Value), W.heap.size ≤ W1.heap.size → (∀ k, k < W.heap.size → ¬ okx k → W1.heap[k]? = W.heap[k]?) → Kd.R (Kd.int .i64) 3 W1 base (fun k => okx k ∨ ok k ∧ W.heap.size ≤ k) v l →
    W1.cell? ⟨g, m * 5 + 4, none⟩ = some (.slice A4 t.f4.length c4) ∧ W1.frozen? ⟨g, m * 5 + 4, none⟩ = false ∧ Kd.S k49a 72 (W1.setCell ⟨g, m * 5 + 4, none⟩ v) base ok (.slice (some ⟨g, 0, none⟩) n cap) (s.set m (setIx t l)) := by
 have hml := (List.getElem?_eq_some_iff.1 hm).1
 have hn := (Kd.S_reads' h).1
 obtain ⟨oki, c, hcl, hM, hcc, hoki, hH⟩ := Kd.S_lend h z49 (m : Int) (by omega) (by omega)
 rw [Int.toNat_natCast, List.getD_eq_getElem?_getD, hm] at hM
 obtain ⟨P, v1, v2, v3, v4, rfl, g1, g2, g3, g4⟩ := hM
 obtain ⟨A4, c4, rfl⟩ := Kd.R_slice g4
 have h0 := hcc 4 _ rfl
 rw [Int.toNat_natCast] at h0
 have hx : W.cell? ⟨g, m * 5 + 4, none⟩ = some (.slice A4 t.f4.length c4) := h0
 obtain ⟨cells, hgc⟩ := Kd.S_typed h g (by simp [Value.ownBlock])
 have hgs := blk_lt hgc
 refine ⟨fun k => oki k ∧ P k, A4, c4, hx, g4, fun k hk => hoki k hk.1, hgs, Kd.S_base h g (by simp [Value.ownBlock]), fun W1 l v hsz hfar hv => ?_⟩
 have hgc1 := (hfar g hgs (fun hk => (hoki g hk.1).2 rfl)).trans hgc
 refine ⟨(blk_cell hgc1 _).trans ((blk_cell hgc _).symm.trans hx), blk_frozen hgc1 _, ?_⟩
 have e1 := Kd.R_mono (Kd.R_step (Kd.R_bound g1) (fun k hk hlt => hfar k hlt (fun h2 => hk.1.2 h2.2))) (ok' := fun k => (oki k ∨ ok k ∧ W.heap.size ≤ k) ∧ ¬ (P k ∨ W.heap.size ≤ k)) (fun k hk => ⟨Or.inl hk.1.1, fun h2 => h2.elim hk.1.2 (fun h3 => by have := hk.2.2.1; omega)⟩)
 have e2 := Kd.R_mono (Kd.R_step (Kd.R_bound g2) (fun k hk hlt => hfar k hlt (fun h2 => hk.1.2 h2.2))) (ok' := fun k => (oki k ∨ ok k ∧ W.heap.size ≤ k) ∧ ¬ (P k ∨ W.heap.size ≤ k)) (fun k hk => ⟨Or.inl hk.1.1, fun h2 => h2.elim hk.1.2 (fun h3 => by have := hk.2.2.1; omega)⟩)
 have e3 := Kd.R_mono (Kd.R_step (Kd.R_bound g3) (fun k hk hlt => hfar k hlt (fun h2 => hk.1.2 h2.2))) (ok' := fun k => (oki k ∨ ok k ∧ W.heap.size ≤ k) ∧ ¬ (P k ∨ W.heap.size ≤ k)) (fun k hk => ⟨Or.inl hk.1.1, fun h2 => h2.elim hk.1.2 (fun h3 => by have := hk.2.2.1; omega)⟩)
 have e4 := Kd.R_mono hv (ok' := fun k => (oki k ∨ ok k ∧ W.heap.size ≤ k) ∧ (P k ∨ W.heap.size ≤ k)) (fun k hk => hk.elim (fun h2 => ⟨Or.inl h2.1, Or.inl h2.2⟩) (fun h2 => ⟨Or.inr h2, Or.inr h2.2⟩))
 have hM2 : MA W1 base (fun k => oki k ∨ ok k ∧ W.heap.size ≤ k) (setIx t l) ([Value.string t.f0, v1, v2, v3, Value.slice A4 t.f4.length c4].take 4 ++ [v] ++ [Value.string t.f0, v1, v2, v3, Value.slice A4 t.f4.length c4].drop (4 + [v].length)) := ⟨fun k => P k ∨ W.heap.size ≤ k, v1, v2, v3, v, rfl, e1, e2, e3, e4⟩
 have := (Kd.S_seg0 (Kd.H_step (Kd.H_widen hH) (fun k ho hn hlt => hfar k hlt (fun h2 => hn (Or.inl h2.1)))) (by omega) (by omega) (seg := [v]) (j := 4) (by show 4 + 1 ≤ 5; omega) (x' := setIx t l) hM2 (fun k hk => hk)).1
 rw [Int.toNat_natCast] at this
 exact this
def insI (c : Int) (l : List Int) : List Int := l.takeWhile (· < c) ++ c :: l.dropWhile (· < c)
def addG (v : Bool) (s : List S49) (nm cn : ByteArray) : List S49 × Int :=
 if (placeG v s nm cn).2.2 = 0 then
  if (rd_T49 s (placeG v s nm cn).1).f4.any (· == (placeG v s nm cn).2.1) = true then ([], 70)
  else (s.set (placeG v s nm cn).1.toNat (setIx (rd_T49 s (placeG v s nm cn).1) (insI (placeG v s nm cn).2.1 (rd_T49 s (placeG v s nm cn).1).f4)), 0)
 else ([], (placeG v s nm cn).2.2)
def rmvG (v : Bool) (s : List S49) (nm cn : ByteArray) : List S49 × Int :=
 if (placeG v s nm cn).2.2 = 0 then
  if (rd_T49 s (placeG v s nm cn).1).f4.any (· == (placeG v s nm cn).2.1) = true then
   (s.set (placeG v s nm cn).1.toNat (setIx (rd_T49 s (placeG v s nm cn).1) ((rd_T49 s (placeG v s nm cn).1).f4.filter (· != (placeG v s nm cn).2.1))), 0)
  else ([], 71)
 else ([], (placeG v s nm cn).2.2)
theorem insI_perm (c : Int) (l : List Int) : (insI c l).Perm (l ++ [c]) := by
 unfold insI
 have h : l.takeWhile (· < c) ++ l.dropWhile (· < c) = l := List.takeWhile_append_dropWhile
 have h1 : (l.takeWhile (· < c) ++ c :: l.dropWhile (· < c)).Perm (c :: (l.takeWhile (· < c) ++ l.dropWhile (· < c))) := List.perm_middle
 rw [h] at h1
 exact h1.trans (List.perm_append_singleton c l).symm
theorem drop_ge (c : Int) : ∀ (l : List Int), l.Pairwise (· ≤ ·) → ∀ x ∈ l.dropWhile (· < c), c ≤ x
 | [], _, x, h => by simp at h
 | a :: l, hp, x, h => by
  rw [List.pairwise_cons] at hp
  rw [List.dropWhile_cons] at h
  split at h
  ·exact drop_ge c l hp.2 x h
  ·rename_i q
   have hca : c ≤ a := by simpa using q
   rcases List.mem_cons.1 h with e | h
   ·omega
   ·have := hp.1 x h; omega
theorem take_lt (c : Int) : ∀ (l : List Int), ∀ x ∈ l.takeWhile (· < c), x < c
 | [], x, h => by simp at h
 | a :: l, x, h => by
  rw [List.takeWhile_cons] at h
  split at h
  ·rename_i q
   rcases List.mem_cons.1 h with e | h
   ·subst e; simpa using q
   ·exact take_lt c l x h
  ·cases h
theorem nan_walk (x : Int) (w : World) : Calls Tryz.prog 140 #[.int .i64 x] w fun e w' => e = .returned (.bool false) ∧ w = w' := by
 go_enter Tryz.func140, Tryz.ntmps140
 go_wp2
 go_ret
 exact ⟨by simp, rfl⟩
theorem nan2_walk (x : Int) (w : World) : Calls Tryz.prog 93 #[.int .i64 x] w fun e w' => e = .returned (.bool false) ∧ w = w' := by
 go_enter Tryz.func93, Tryz.ntmps93
 go_wp2
 go_ret
 exact ⟨by simp, rfl⟩
theorem less_walk (x y : Int) (w : World) : Calls Tryz.prog 92 #[.int .i64 x, .int .i64 y] w fun e w' => e = .returned (.bool (decide (x < y))) ∧ w = w' := by
 go_enter Tryz.func92, Tryz.ntmps92
 go_wp2_with (go_at_call 140; refine (nan_walk _ _).mono ?_; rintro e w' ⟨rfl, rfl⟩)
 go_ret
 exact ⟨rfl, rfl⟩
def atI (c : Int) (l : List Int) : Nat := l.countP (· < c)
set_option maxHeartbeats 4000000 in
set_option maxRecDepth 100000 in
theorem search_walk (A : Option Addr) (cap : Nat) (l : List Int) (x : Int) (w : World) (hC : Kd.C (Kd.int .i64) w A l.length l) (hcap : l.length ≤ cap) (hl : l.length ≤ 3000000) (hs : l.Pairwise (· ≤ ·)) :
  Calls Tryz.prog 45 #[.slice A l.length cap, .int .i64 x] w fun e w' => e = .returned (.tuple #[.int .i64 (atI x l : Nat), .bool (l.any (· == x))]) ∧ Below w.heap.size w w' := by
 have S : Aside0 (∀ a b, a ≤ b → b < l.length → l.getD a 0 ≤ l.getD b 0) := ⟨Go.Lib.sorted_at l l.length (Nat.le_refl _) (by rw [List.take_length]; exact hs)⟩
 have HC := Aside0.mk hC
 have HANY : Aside0 (l.any (· == x) = l.contains x) := ⟨by
  rw [Bool.eq_iff_iff, List.contains_iff_mem, List.any_eq_true]
  exact ⟨fun ⟨y, h1, h2⟩ => by rw [beq_iff_eq] at h2; rw [← h2]; exact h1, fun h => ⟨x, h, by simp⟩⟩⟩
 clear hs hC
 go_enter Tryz.func45, Tryz.ntmps45
 go_wp2
 go_loopg [7, 8] l.length (fun g s7 s8 wr => ∃ lo hi q : Nat, s7 = .int .i64 lo ∧ s8 = .int .i64 hi ∧ lo ≤ hi ∧ hi ≤ l.length ∧ hi - lo ≤ g ∧ wr = w.drewN q ∧ Aside0 ((∀ t, t < lo → l.getD t 0 < x) ∧ (∀ t, hi ≤ t → t < l.length → x ≤ l.getD t 0)))
 case atStart => exact ⟨0, l.length, 0, rfl, rfl, Nat.zero_le _, Nat.le_refl _, by omega, rfl, ⟨fun t ht => absurd ht (Nat.not_lt_zero _), fun t h1 h2 => by omega⟩⟩
 case round =>
  obtain ⟨lo, hi, q, rfl, rfl, hlh, hin, hg, rfl, I⟩ := hrel
  by_cases hlt : lo < hi
  ·obtain ⟨ad, hA, cm⟩ := Kd.at_int HC.out (((lo + hi) / 2 : Nat) : Int) (by omega) (by omega)
   subst hA
   rw [show rd l (((lo + hi) / 2 : Nat) : Int) = l.getD ((lo + hi) / 2) 0 by unfold rd; rw [Int.toNat_natCast], Int.toNat_natCast] at cm
   generalize hy : l.getD ((lo + hi) / 2) 0 = y at cm
   have Y := Aside0.mk hy
   clear hy
   by_cases hyx : y < x
   ·go_wp2_with (first | (go_at_call 92; refine (less_walk _ _ _).mono ?_; rintro e w' ⟨rfl, rfl⟩) | (go_at_call 93; refine (nan2_walk _ _).mono ?_; rintro e w' ⟨rfl, rfl⟩))
    go_roundg (hi - ((lo + hi) / 2 + 1))
    case measure => omega
    case rel =>
     refine ⟨(lo + hi) / 2 + 1, hi, _, by rw [show ((lo : Int) + (hi : Int)) / 2 + 1 = (((lo + hi) / 2 + 1 : Nat) : Int) by omega], rfl, by omega, hin, Nat.le_refl _, rfl, ⟨fun t ht => ?_, I.out.2⟩⟩
     have := S.out t ((lo + hi) / 2) (by omega) (by omega)
     rw [Y.out] at this
     omega
   ·go_wp2_with (first | (go_at_call 92; refine (less_walk _ _ _).mono ?_; rintro e w' ⟨rfl, rfl⟩) | (go_at_call 93; refine (nan2_walk _ _).mono ?_; rintro e w' ⟨rfl, rfl⟩))
    go_roundg ((lo + hi) / 2 - lo)
    case measure => omega
    case rel =>
     refine ⟨lo, (lo + hi) / 2, _, rfl, by rw [show ((lo : Int) + (hi : Int)) / 2 = (((lo + hi) / 2 : Nat) : Int) by omega], by omega, by omega, Nat.le_refl _, rfl, ⟨I.out.1, fun t ht htn => ?_⟩⟩
     have := S.out ((lo + hi) / 2) t ht htn
     rw [Y.out] at this
     omega
  ·have : hi = lo := by omega
   subst this
   obtain ⟨e1, e2⟩ := Go.Lib.search_end l l.length hi x (Nat.le_refl _) hin I.out.1 I.out.2 S.out
   rw [List.take_length] at e1 e2
   have E : Aside0 (atI x l = hi ∧ l.any (· == x) = decide (hi < l.length ∧ l.getD hi 0 = x)) := ⟨e1, HANY.out.trans e2⟩
   have HBQ : Aside0 (∀ q, Below w.heap.size w (w.drewN q)) := ⟨fun q => pw_below_drewN (Below.refl _ _) q⟩
   clear e1 e2 HANY
   by_cases hn : hi < l.length
   ·obtain ⟨ad, hA, cl⟩ := Kd.at_int HC.out (hi : Int) (by omega) (by omega)
    subst hA
    rw [show rd l (hi : Int) = l.getD hi 0 by unfold rd; rw [Int.toNat_natCast], Int.toNat_natCast] at cl
    generalize hy : l.getD hi 0 = y at cl
    have Y := Aside0.mk hy
    clear hy
    by_cases hyx : y = x
    ·go_wp2_with (first | (go_at_call 92; refine (less_walk _ _ _).mono ?_; rintro e w' ⟨rfl, rfl⟩) | (go_at_call 93; refine (nan2_walk _ _).mono ?_; rintro e w' ⟨rfl, rfl⟩))
     go_ret2
     refine ⟨?_, HBQ.out _⟩
     rw [E.out.1, E.out.2, Y.out, decide_eq_true (show hi < l.length ∧ y = x from ⟨hn, hyx⟩)]
     first | rfl | simp [*]
    ·go_wp2_with (first | (go_at_call 92; refine (less_walk _ _ _).mono ?_; rintro e w' ⟨rfl, rfl⟩) | (go_at_call 93; refine (nan2_walk _ _).mono ?_; rintro e w' ⟨rfl, rfl⟩))
     go_ret2
     refine ⟨?_, HBQ.out _⟩
     rw [E.out.1, E.out.2, Y.out, decide_eq_false (show ¬ (hi < l.length ∧ y = x) from fun h => hyx h.2)]
     first | rfl | simp [*]
   ·go_wp2_with (first | (go_at_call 92; refine (less_walk _ _ _).mono ?_; rintro e w' ⟨rfl, rfl⟩) | (go_at_call 93; refine (nan2_walk _ _).mono ?_; rintro e w' ⟨rfl, rfl⟩))
    go_ret2
    refine ⟨?_, HBQ.out _⟩
    rw [E.out.1, E.out.2, decide_eq_false (show ¬ (hi < l.length ∧ l.getD hi 0 = x) from fun h => hn h.1)]
    first | rfl | simp [*]
end Go.Proofs.YthgfdnffnbclpaaGreatDoor.PAll
