import Derived.Test.YthgfdnffnbclpaaGreatDoorSQC15
import Derived.Test.YthgfdnffnbclpaaGreatDoorSQC16
import Derived.Test.YthgfdnffnbclpaaGreatDoorSQC07
import Derived.Test.YthgfdnffnbclpaaGreatDoorSQC14
set_option linter.unusedVariables false
set_option linter.unusedSimpArgs false
namespace Go.Proofs.YthgfdnffnbclpaaGreatDoor.PAll
open Go.RowKit Go.Proofs.YthgfdnffnbclpaaGreatDoorW.PrintWords Go.Proofs.YthgfdnffnbclpaaGreatDoorW.PrintLast Go.Proofs.YthgfdnffnbclpaaGreatDoorW.PrintMore
def leftP : Rows → List Bool → Rows
 | row :: r, g :: q => if g = true then leftP r q else row :: leftP r q
 | _, _ => []
def zbd (s : List S49) (d : Data) : Nat → List S49 → Option Bool
 | _, [] => some true
 | m, t :: r => (zcS s d m t.f3).bind fun b => if b = true then zbd s d (m + 1) r else some false
def zfk (k : Nat) (s : List S49) (d : Data) (nm : ByteArray) (gone : List Bool) : Option (Data × Int) :=
 (zb6 k s d).bind fun v =>
  if v = true then
   if findP nm 0 s < 0 then some ([], 71)
   else if gone.length = (rd_L13 d (findP nm 0 s)).length then
    (zbd s (d.set (findP nm 0 s).toNat (leftP (rd_L13 d (findP nm 0 s)) gone)) 0 s).bind fun b =>
     if b = true then some (d.set (findP nm 0 s).toNat (leftP (rd_L13 d (findP nm 0 s)) gone), 0) else some ([], 77)
   else some ([], 78)
  else some ([], 1)
section
variable {P : Program} {ops : Array Oper} {Q : Exit → Act → World → Prop} {rest : List Oper} {o : Oper} {a : Act} {w : World}
theorem zcs (hg : o.guard = none) (t : TypeId) (p x : Operand) (hop : o.op = .store t p x) (hN : o.dst = none) {pv u : Value} {w' : World} (hp : a.eval p = pv) (hx : a.eval x = u)
  (hrun : (Instr.storeAt t pv u).run P w = .ok () w') (hK : wpList P ops Q rest a w') : wpList P ops Q (o :: rest) a w := by
 refine wpList_plain hg fun K' hK' => ?_
 unfold Oper.wp
 simp only [execOp, hop, hp, hx, hrun, Result.andThen, Sem.run_bind]
 show K' (a.put o.dst undef) w'
 rw [hN]
 exact hK' _ _ hK
end
theorem zeI : ∀ (a : Rows) (b : List Bool) (x : List S64) (y : Bool), a.length = b.length → leftP (a ++ [x]) (b ++ [y]) = leftP a b ++ (if y = true then [] else [x])
 | [], [], x, y, _ => by cases y <;> rfl
 | [], _ :: _, _, _, h => by simp at h
 | _ :: _, [], _, _, h => by simp at h
 | a :: a2, b :: b2, x, y, h => by
  have := zeI a2 b2 x y (by simpa using h)
  show leftP (a :: (a2 ++ [x])) (b :: (b2 ++ [y])) = _
  unfold leftP
  rw [this]
  split
  ·rfl
  ·rfl
theorem zfH : ∀ (a : Rows) (b : List Bool), (leftP a b).length ≤ a.length
 | [], b => by simp [leftP]
 | a :: a2, [] => by simp [leftP]
 | a :: a2, b :: b2 => by
  have := zfH a2 b2
  unfold leftP
  split
  ·simp; omega
  ·simp; omega
theorem zdG : ∀ (a : Rows) (b : List Bool), ∀ x ∈ leftP a b, x ∈ a
 | [], b, x, h => by simp [leftP] at h
 | a :: a2, [], x, h => by simp [leftP] at h
 | a :: a2, b :: b2, x, h => by
  unfold leftP at h
  split at h
  ·exact List.mem_cons_of_mem _ (zdG a2 b2 x h)
  ·rcases List.mem_cons.1 h with rfl | h
   ·exact List.mem_cons_self
   ·exact List.mem_cons_of_mem _ (zdG a2 b2 x h)
set_option maxHeartbeats 4000000 in
set_option maxRecDepth 100000 in
theorem zfT (k : Nat) (A0 : Option Addr) (c0 : Nat) (s : List S49) (A1 : Option Addr) (c1 : Nat) (d : Data) (nm : ByteArray) (A3 : Option Addr) (c3 : Nat) (gone : List Bool) (r1 : Data) (r2 : Int) (w : World)
  (hS : Kd.C k49 w A0 s.length s) (hc0 : s.length ≤ c0) (hD : Kd.C (Kd.slice 89 (Kd.slice 87 k64)) w A1 d.length d) (hc1 : d.length ≤ c1) (hG : Kd.C Kd.bool w A3 gone.length gone) (hc3 : gone.length ≤ c3)
  (hwd : zcr d) (hsd : zb6 k s d = some true → zaJ d) (hL : LaidL w) (h : zfk k s d nm gone = some (r1, r2)) :
  Calls Tryz.prog 24 #[.slice A0 s.length c0, .slice A1 d.length c1, .string nm, .slice A3 gone.length c3] w fun e w' => ∃ v0 : Value, e = .returned (.tuple #[v0, .int .i64 r2]) ∧ Kd.S (Kd.slice 89 (Kd.slice 87 k64)) 41 w' w.heap.size (fun _ => True) v0 r1 ∧ Below w.heap.size w w' := by
 have HS := Aside0.mk hS
 have HD := Aside0.mk hD
 have HG := Aside0.mk hG
 have HWD := Aside0.mk hwd
 have HSD := Aside0.mk hsd
 have HB0 := Aside0.mk (Below.refl w.heap.size w)
 have HNIL : Aside0 (∀ W, Kd.C (Kd.slice 89 (Kd.slice 87 k64)) W none 0 ([] : Data)) := ⟨fun W => zih _ W⟩
 unfold zfk at h
 obtain ⟨v, hv, h⟩ := Option.bind_eq_some_iff.mp h
 have HV := Aside0.mk (zbb k A0 c0 s A1 c1 d v w hS hc0 hD hc1 hwd hL hv)
 have HF : Aside0 (∀ W, Below w.heap.size w W → Calls Tryz.prog 33 #[.slice A0 s.length c0, .string nm] W fun e w' => e = .returned (.int .i64 (findP nm 0 s)) ∧ Below W.heap.size W w') := ⟨fun W hW => scheme_find.calls A0 c0 s nm _ W (Kd.C_below hS hW) hc0 rfl⟩
 have HH := Aside0.mk h
 have HVD := Aside0.mk hv
 clear hS hD hG hwd hsd hL h hv
 go_enter Tryz.func24, Tryz.ntmps24
 cases v with
 | false =>
  have h := HH.out
  rw [if_neg (by decide)] at h
  cases h
  go_wp2_with (go_at_call 29; refine HV.out.mono ?_; rintro e w1 ⟨rfl, hb1⟩)
  go_ret2
  exact ⟨_, rfl, Kd.S_nil _ _ _ _ _, hb1⟩
 | true =>
  have h := HH.out
  rw [if_pos rfl] at h
  have HLEN := Aside0.mk (zfZ HVD.out)
  have HSD2 := Aside0.mk (HSD.out HVD.out)
  have hrange := zbk nm s 0
  generalize findP nm 0 s = n at *
  by_cases q : n < 0
  ·rw [if_pos q] at h
   cases h
   have d1 : decide (n < 0) = true := decide_eq_true q
   clear q hrange HH
   go_wp2_with (first | (go_at_call 29; refine HV.out.mono ?_; rintro e w1 ⟨rfl, hb1⟩) | (go_at_call 33; refine (HF.out _ hb1).mono ?_; rintro e w2 ⟨rfl, hb2⟩))
   go_ret2
   exact ⟨_, rfl, Kd.S_nil _ _ _ _ _, below_step hb1 hb2⟩
  rw [if_neg q] at h
  have d1 : decide (n < 0) = false := decide_eq_false q
  have hn0 : 0 ≤ n := by omega
  have hns : n < (s.length : Int) := by omega
  have hnd : n < (d.length : Int) := by have := HLEN.out; omega
  clear q hrange HH
  have HP := Aside0.mk h
  clear h
  obtain ⟨ad, Ar, cr, hAd, hx, hcr, hCr⟩ := zbg HD.out n hn0 hnd
  cases hAd
  generalize hold : rd_L13 d n = old at *
  have HX : Aside0 (∀ W, Below w.heap.size w W → W.cell? (ad.add n.toNat) = some (.slice Ar old.length cr)) := ⟨fun W hB => (hB.cell (World.block_lt_of_cell? w _ hx)).trans hx⟩
  have HOL : Aside0 (old.length ≤ 2000000) := ⟨by rw [← hold]; unfold rd_L13; have hl : n.toNat < d.length := (by omega); rw [List.getD_eq_getElem?_getD, List.getElem?_eq_getElem hl]; exact (HSD2.out.2 _ (List.getElem_mem hl)).1⟩
  have HOLD := Aside0.mk hold
  clear hx hcr hCr hold
  by_cases q : gone.length = old.length
  case neg =>
   have hp := HP.out
   rw [if_neg q] at hp
   cases hp
   have qi : ¬ ((gone.length : Int) = (old.length : Int)) := by omega
   have d2 : ((gone.length : Int) == (old.length : Int)) = false := beq_eq_false_iff_ne.mpr qi
   have d3 : ((gone.length : Int) != (old.length : Int)) = true := bne_iff_ne.mpr qi
   clear q qi HP
   go_wp2_with (first | (go_at_call 29; refine HV.out.mono ?_; rintro e w1 ⟨rfl, hb1⟩) | (go_at_call 33; refine (HF.out _ hb1).mono ?_; rintro e w2 ⟨rfl, hb2⟩; have x0 := HX.out _ (below_step hb1 hb2)))
   go_ret2
   exact ⟨_, rfl, Kd.S_nil _ _ _ _ _, below_step hb1 hb2⟩
  have hp := HP.out
  rw [if_pos q] at hp
  have HP1 := Aside0.mk hp
  have qi : ((gone.length : Int) = (old.length : Int)) := by omega
  have d2 : ((gone.length : Int) == (old.length : Int)) = true := beq_iff_eq.mpr qi
  have d3 : ((gone.length : Int) != (old.length : Int)) = false := by rw [bne, d2]; rfl
  have HQ := Aside0.mk q
  have HCD : Aside0 (∀ W, Below w.heap.size w W → Calls Tryz.prog 37 #[.slice (some ad) d.length c1] W fun e w' => ∃ v0_ : Value, e = .returned (v0_) ∧ Kd.S (Kd.slice 89 (Kd.slice 87 k64)) 41 w' W.heap.size (fun _ => True) v0_ d ∧ Below W.heap.size W w') := ⟨fun W hW => zbn (some ad) c1 d W (Kd.C_below HD.out hW) hc1 HSD2.out⟩
  have HDP : Aside0 (0 < d.length) := ⟨by omega⟩
  clear q qi hp HP
  have HMK : Aside0 (∀ W, ∃ W2, (Instr.makeSlice 41 (.int .i64 0) (.int .i64 gone.length)).run Tryz.prog W = .ok (.slice (some ⟨W.heap.size, 0, none⟩) 0 gone.length) W2 ∧ W2.ownsRow W.heap.size 89 1 (.slice (some ⟨W.heap.size, 0, none⟩) 0 gone.length) 0 [] ∧ W.grownBy W2 none) := ⟨fun W => by
   obtain ⟨i0, hi0, hz0, hz1, hz2⟩ := info_parts (P := Tryz.prog) (e := 89) (z := .slice none 0 0) (size := 1) (bytes := 24) (by kernel_rfl)
   have h1 := HQ.out
   have h2 := HOL.out
   exact run_make_own W W.heap.size 41 89 i0 _ 1 Tryz.underlying41 hi0 hz0 hz1 .i64 .i64 gone.length (by rw [hz2]; omega) (by unfold maxLen; omega) (Nat.le_refl _)⟩
  go_wp2_with (first | (go_at_call 29; refine HV.out.mono ?_; rintro e w1 ⟨rfl, hb1⟩) | (go_at_call 33; refine (HF.out _ hb1).mono ?_; rintro e w2 ⟨rfl, hb2⟩; have x0 := HX.out _ (below_step hb1 hb2)) | (go_at_call 37; refine (HCD.out _ (below_step hb1 hb2)).mono ?_; rintro e W1 ⟨v, rfl, ho, hb3⟩; obtain ⟨g, cap, ev, hg1, hg2, gcells, hgc⟩ := Kd.S_form ho HDP.out; subst ev; obtain ⟨oki, cc, hcl, hM, hcc, hoki, hH⟩ := Kd.S_lend ho ([] : Rows) n hn0 hnd; obtain ⟨vn, rfl, hRn⟩ := hM; rw [show List.getD d n.toNat [] = old from HOLD.out] at hRn; obtain ⟨An, cn, rfl⟩ := Kd.R_slice hRn; have hcell0 := hcc 0 _ rfl; have hcell : W1.cell? ⟨g, n.toNat, none⟩ = some (.slice An old.length cn) := (by simpa [Kd.slice] using hcell0); obtain ⟨W2, hmk, hown, hgr⟩ := HMK.out W1; have HBM := Aside0.mk ((Below.refl W1.heap.size W1).grown hgr (Nat.le_refl _) (fun j hj => by cases hj)); have hcell2 := (HBM.out.cell (World.block_lt_of_cell? W1 _ hcell)).trans hcell))
  have HBW1 := Aside0.mk (below_step (below_step hb1 hb2) hb3)
  have HW2S : Aside0 (w2.heap.size ≤ W1.heap.size) := ⟨hb3.size⟩
  have HWS : Aside0 (w.heap.size ≤ w2.heap.size) := ⟨(below_step hb1 hb2).size⟩
  have HRN := Aside0.mk hRn
  have HGC := Aside0.mk hgc
  have HG1 := Aside0.mk hg1
  have HG2 := Aside0.mk hg2
  have HHH := Aside0.mk (Kd.H_widen hH)
  have HCE := Aside0.mk hcell
  have HO0 : Aside0 ((Kd.slice 87 k64).R 89 W2 w2.heap.size (fun k => oki k ∨ W1.heap.size ≤ k) (.slice (some ⟨W1.heap.size, 0, none⟩) 0 gone.length) []) := ⟨fun k hk => Or.inr (by simp [Value.ownBlock] at hk; omega), [], zeD hown hb3.size, Reps.none _ _⟩
  clear hRn hgc hg1 hg2 hH hcell hcell0 hcell2 hmk hown hgr hcc hoki ho hb1 hb2 hb3 x0 d2 d3 d1 HCD HDP HMK HV HF
  go_loopg [12, 43] old.length (fun gk v12 v43 wx => ∃ (i : Nat), i + gk = old.length ∧ v43 = .int .i64 i ∧ Aside0 ((Kd.slice 87 k64).R 89 wx w2.heap.size (fun k => oki k ∨ W1.heap.size ≤ k) v12 (leftP (old.take i) (gone.take i))) ∧ Aside0 (∀ k, v12.ownBlock = some k → W1.heap.size ≤ k) ∧ Aside0 (Below W1.heap.size W1 wx))
  case atStart => exact ⟨0, by omega, rfl, by simpa [leftP] using HO0, ⟨fun k hk => by simp [Value.ownBlock] at hk; omega⟩, HBM⟩
  case round =>
   clear HO0 HBM
   obtain ⟨i, hi, rfl, HO, HOB, HB⟩ := hrel
   cases gk with
   | succ gk =>
    have hlt : i < old.length := by omega
    have hltg : i < gone.length := by have := HQ.out; omega
    have hii : (i : Int) < (old.length : Int) := by omega
    have hig : (i : Int) < (gone.length : Int) := by omega
    have hi0 : (0 : Int) ≤ (i : Int) := by omega
    obtain ⟨gn, capn, en, _⟩ := Kd.R_form HRN.out (by omega)
    cases en
    obtain ⟨cc, hcl, hM, hcc⟩ := Kd.R_getA HRN.out ([] : List S64) (i : Int) hi0 hii
    obtain ⟨vr, rfl, hRr⟩ := hM
    obtain ⟨Ai, ci, rfl⟩ := Kd.R_slice hRr
    have hcell := hcc 0 _ rfl
    have hgd : List.getD old (i : Int).toNat [] = old[i] := by simp [List.getD, hlt]
    rw [hgd] at hcell hRr
    have hcell2 : wr.cell? ⟨gn, i, none⟩ = some (.slice Ai old[i].length ci) := by
     have h1 : W1.cell? ⟨gn, i, none⟩ = some (.slice Ai old[i].length ci) := by rw [zaI] at hcell; simpa [Kd.slice] using hcell
     exact (HB.out.cell (World.block_lt_of_cell? W1 _ h1)).trans h1
    obtain ⟨adg, hAg, hbg⟩ := Kd.at_bool HG.out (i : Int) hi0 hig
    cases hAg
    rw [Int.toNat_natCast] at hbg
    have hgb : rdOf false gone (i : Int) = gone[i] := by unfold rdOf; simp [List.getD, hltg]
    rw [hgb] at hbg
    have hBw := below_step HBW1.out HB.out
    replace hbg := (hBw.cell (World.block_lt_of_cell? w _ hbg)).trans hbg
    have HTL : Aside0 (leftP (old.take (i + 1)) (gone.take (i + 1)) = leftP (old.take i) (gone.take i) ++ (if gone[i] = true then [] else [old[i]])) := ⟨by
     rw [zay hlt, zay hltg]
     exact zeI _ _ _ _ (by rw [List.length_take, List.length_take]; omega)⟩
    have HPL : Aside0 ((leftP (old.take i) (gone.take i)).length ≤ 2000000) := ⟨by
     have := zfH (old.take i) (gone.take i)
     have h2 := HOL.out
     rw [List.length_take] at this
     omega⟩
    have HM := Aside0.mk (Kd.M_row hRr)
    clear hcell hcc hRr hgd hgb hBw
    generalize old[i] = row at *
    generalize leftP (old.take i) (gone.take i) = pre at *
    cases hgi : gone[i] with
    | true =>
     rw [hgi] at hbg HTL
     rw [if_pos rfl, List.append_nil] at HTL
     clear hgi
     go_wp2
     go_roundg gk
     case measure => omega
     case rel => exact ⟨i + 1, by omega, by first | rfl | (simp; done) | (have := HOL.out; simp; unfold wrap64; omega), ⟨by rw [HTL.out]; exact HO.out⟩, HOB, HB⟩
    | false =>
     rw [hgi] at hbg HTL
     rw [if_neg (by decide)] at HTL
     clear hgi
     have hp_ : (Kd.slice 87 k64).M wr w2.heap.size (fun k => oki k ∧ k < W1.heap.size) row [.slice Ai row.length ci] := (Kd.slice 87 k64).M_mono (fun k hk => ⟨hk.1.1, hk.2.2.1⟩) (Kd.M_below ((Kd.slice 87 k64).M_bound HM.out) HB.out)
     have HPP := Aside0.mk hp_
     have hl24 : (pre.length + 1) * 24 ≤ 140737488355328 := by have := HPL.out; omega
     have HBS : Aside0 (W1.heap.size ≤ wr.heap.size) := ⟨HB.out.size⟩
     clear hp_
     go_wp2_with ((with_reducible refine zam (b := .append) (xs := #[.tmp 53, .tmp 55]) rfl ?_); at_builtin; refine Kd.R_append (Kd.slice 87 k64) (w0 := wr) w2.heap.size rfl (.tmp 53) (.tmp 55) 41 89 (.slice none 0 0) 24 rfl Tryz.underlying41 zg5 rfl (by decide) (by omega) u12 pre row [.slice Ai row.length ci] (fun k => oki k ∨ W1.heap.size ≤ k) (fun k => oki k ∧ k < W1.heap.size) rfl rfl HPP.out (fun k hk => ⟨Or.inl hk.1, fun he => by have := HOB.out k he.symm; omega⟩) (fun k hk => Or.inr (Nat.le_trans HBS.out hk)) HO.out (Below.refl _ _) (Nat.le_trans HW2S.out HBS.out) hl24 ?_; intro v1 w3 hv1 _ hg3 hat3)
     go_roundg gk
     case measure => omega
     case rel => exact ⟨i + 1, by omega, by first | rfl | (simp; done) | (have := HOL.out; simp; unfold wrap64; omega), ⟨by rw [HTL.out]; exact hv1⟩, ⟨fun k hk => by
      rcases hat3 with h | ⟨b, h, hle⟩
      ·exact HOB.out k (h ▸ hk)
      ·rw [h] at hk; injection hk with hk; have := HBS.out; omega⟩, ⟨HB.out.grown hg3 HBS.out (fun j hj => HOB.out j hj)⟩⟩
   | zero =>
    have e1 : old.take i = old := List.take_of_length_le (by omega)
    have e2 : gone.take i = gone := List.take_of_length_le (by have := HQ.out; omega)
    rw [e1, e2] at HO
    have hii : ¬ (i : Int) < (old.length : Int) := by omega
    obtain ⟨b, hb, hp⟩ := Option.bind_eq_some_iff.mp HP1.out
    have hwfl : ∀ row ∈ leftP old gone, ∀ x ∈ row, wfV x := by
     intro row hr
     have hl : n.toNat < d.length := by omega
     have : old ∈ d := by rw [← HOLD.out]; unfold rd_L13; rw [List.getD_eq_getElem?_getD, List.getElem?_eq_getElem hl]; exact List.getElem_mem hl
     exact HWD.out _ this row (zdG _ _ row hr)
    have HWL := Aside0.mk hwfl
    generalize leftP old gone = left at *
    have HHB := Aside0.mk hb
    have HP2 := Aside0.mk hp
    obtain ⟨A5, c5, e5⟩ := Kd.R_slice HO.out
    subst e5
    clear e1 e2 hb hp hwfl HP1
    have hgc : wr.heap[g]? = some (.cells gcells 41 (0, 0)) := (HB.out.block g HG2.out).trans HGC.out
    have hfit : n.toNat + 1 ≤ gcells.size := by
     have h2 := (zad HGC.out n.toNat).symm.trans HCE.out
     have := (Array.getElem?_eq_some_iff.1 h2).1
     omega
    have hS4 := (Kd.S_seg0 (Kd.H_below HHH.out HB.out) hn0 hnd (seg := [.slice A5 left.length c5]) (j := 0) (Nat.le_refl _) (x' := left) (okp := fun k => oki k ∨ W1.heap.size ≤ k) (Kd.M_row HO.out) (fun k hk => hk.elim Or.inl (fun h => Or.inr ⟨trivial, h⟩))).1
    have hoff : n.toNat * (Kd.slice 89 (Kd.slice 87 k64)).sz + 0 = n.toNat := by simp [Kd.slice]
    rw [hoff] at hS4
    have HW4 : Aside0 (Below w.heap.size w (wr.setCells g n.toNat [.slice A5 left.length c5])) := ⟨Go.below_setCells (Nat.le_trans HWS.out HG1.out) _ _ _ (below_step HBW1.out HB.out)⟩
    have hrun := zaG (P := Tryz.prog) 41 (.slice A5 left.length c5) [.slice A5 left.length c5] hgc rfl (by kernel_rfl) (by simpa using hfit) (by simp [Value.oneCell'])
    obtain ⟨W4, hW4⟩ : ∃ W4, W4 = wr.setCells g n.toNat [.slice A5 left.length c5] := ⟨_, rfl⟩
    rw [← hW4] at hS4 HW4 hrun
    have HRUN := Aside0.mk hrun
    have HS4 := Aside0.mk hS4; have HO4 := Aside0.mk (Kd.S_reads' hS4)
    clear hS4 hoff hrun hW4 hgc hfit
    go_wp2_with ((with_reducible refine zll (.store 41 (.tmp 61) (.tmp 60)) rfl ?_); refine zcs rfl 41 (.tmp 61) (.tmp 60) rfl rfl rfl rfl HRUN.out ?_)
    have hol : (d.set n.toNat left).length = d.length := List.length_set
    have HOL2 := Aside0.mk hol
    have HWF : Aside0 (∀ rows ∈ d.set n.toNat left, ∀ row ∈ rows, ∀ x ∈ row, wfV x) := ⟨by
     intro rs hr
     rcases List.mem_or_eq_of_mem_set hr with h1 | h1
     ·exact HWD.out rs h1
     ·rw [h1]; exact HWL.out⟩
    have HRF : Aside0 (∀ (m : Nat) (b : Bool) (W : World), m < s.length → Below W4.heap.size W4 W → zcS s (d.set n.toNat left) m (rd_T49 s m).f3 = some b → Calls Tryz.prog 73 #[.slice A0 s.length c0, .slice (some ⟨g, 0, none⟩) d.length cap, .int .i64 m] W fun e w' => e = .returned (.bool b) ∧ Below W.heap.size W w') := ⟨fun m b W hm hW hf => by
     have h1 := zbW A0 c0 s (some ⟨g, 0, none⟩) cap (d.set n.toNat left) m b W (Kd.C_below HS.out (below_step HW4.out hW)) hc0 (Kd.C_below (hol ▸ HO4.out.2.2) hW) (hol ▸ HO4.out.2.1) HWF.out (by omega) (by omega) (by rw [hol]; have := HLEN.out; omega) hf
     rw [hol] at h1
     exact h1⟩
    have HB40 := Aside0.mk (Below.refl W4.heap.size W4)
    have HC4 : Aside0 (d.length ≤ cap ∧ Kd.C (Kd.slice 89 (Kd.slice 87 k64)) W4 (some ⟨g, 0, none⟩) (d.set n.toNat left).length (d.set n.toNat left)) := ⟨⟨HO4.out.2.1, hol ▸ HO4.out.2.2⟩⟩
    clear hol hii hi HWF HO HOB HB HO4 HRUN
    go_loopg [64] s.length (fun gk v64 wx => ∃ (m : Nat), m + gk = s.length ∧ v64 = .int .i64 m ∧ Aside0 (Below W4.heap.size W4 wx) ∧ Aside0 (zbd s (d.set n.toNat left) 0 s = zbd s (d.set n.toNat left) m (s.drop m)))
    case atStart => exact ⟨0, by omega, rfl, HB40, ⟨by simp⟩⟩
    case round =>
     clear HB40
     obtain ⟨m, hm, rfl, HB, HE⟩ := hrel
     rename_i gk1
     cases gk with
     | zero =>
      have e : s.drop m = [] := List.drop_eq_nil_of_le (by omega)
      have he := HE.out
      rw [e, zbd] at he
      have hbt : b = true := by have := HHB.out; rw [he] at this; exact (Option.some.inj this).symm
      subst hbt
      have hp := HP2.out
      rw [if_pos rfl] at hp
      have hii : ¬ (m : Int) < (s.length : Int) := by omega
      cases hp
      clear he HE HHB HP2 e HRF
      go_wp2
      go_ret2
      exact ⟨_, rfl, Kd.S_below (Kd.S_lower HS4.out HWS.out) HB.out, below_step HW4.out HB.out⟩
     | succ gk =>
      have hlt : m < s.length := by omega
      have hii : (m : Int) < (s.length : Int) := by omega
      have hdr : s.drop m = s[m] :: s.drop (m + 1) := List.drop_eq_getElem_cons hlt
      have hrd : rd_T49 s (m : Int) = s[m] := by unfold rd_T49; simp [List.getD, hlt]
      have he := HE.out
      rw [hdr, zbd] at he
      have hb2 := HHB.out
      rw [he] at hb2
      obtain ⟨b1, hb1, hb3⟩ := Option.bind_eq_some_iff.mp hb2
      have HN := Aside0.mk (HRF.out m b1 wr hlt HB.out (by rw [hrd]; exact hb1))
      have HE2 : Aside0 (zbd s (d.set n.toNat left) 0 s = if b1 = true then zbd s (d.set n.toNat left) (m + 1) (s.drop (m + 1)) else some false) := ⟨by rw [he, hb1]; rfl⟩
      have HB3 := Aside0.mk hb3
      clear he hb2 hb1 hb3 HE hdr hrd HRF
      cases b1 with
      | false =>
       have hb3 := HB3.out
       rw [if_neg (by decide)] at hb3
       obtain rfl := Option.some.inj hb3
       have hp := HP2.out
       rw [if_neg (by decide)] at hp
       cases hp
       clear hb3 HHB HP2 HE2 HB3
       go_wp2_with (go_at_call 73; refine HN.out.mono ?_; rintro e w6 ⟨rfl, hb6⟩)
       go_ret2
       exact ⟨_, rfl, Kd.S_nil _ _ _ _ _, below_step HW4.out (below_step HB.out hb6)⟩
      | true =>
       rw [if_pos rfl] at HE2
       go_wp2_with (go_at_call 73; refine HN.out.mono ?_; rintro e w6 ⟨rfl, hb6⟩)
       go_roundg gk
       case measure => omega
       case rel => exact ⟨m + 1, by omega, by first | rfl | (simp; done) | (have := HS.out.2.1; simp; unfold wrap64; omega), ⟨below_step HB.out hb6⟩, HE2⟩
theorem zgA (k : Nat) (A0 : Option Addr) (c0 : Nat) (s : List S49) (A1 : Option Addr) (c1 : Nat) (d : Data) (nm : ByteArray) (A3 : Option Addr) (c3 : Nat) (gone : List Bool) (r1 : Data) (r2 : Int) (w : World)
  (hS : Kd.C k49 w A0 s.length s) (hc0 : s.length ≤ c0) (hD : Kd.C (Kd.slice 89 (Kd.slice 87 k64)) w A1 d.length d) (hc1 : d.length ≤ c1) (hG : Kd.C Kd.bool w A3 gone.length gone) (hc3 : gone.length ≤ c3)
  (hwd : zcr d) (hsd : zb6 k s d = some true → zaJ d) (hL : LaidL w) (h : zfk k s d nm gone = some (r1, r2)) :
  Calls Tryz.prog 24 #[.slice A0 s.length c0, .slice A1 d.length c1, .string nm, .slice A3 gone.length c3] w fun e w' => ∃ (A : Option Addr) (c : Nat), e = .returned (.tuple #[.slice A r1.length c, .int .i64 r2]) ∧ r1.length ≤ c ∧ Kd.C (Kd.slice 89 (Kd.slice 87 k64)) w' A r1.length r1 ∧ Below w.heap.size w w' := by
 refine (zfT k A0 c0 s A1 c1 d nm A3 c3 gone r1 r2 w hS hc0 hD hc1 hG hc3 hwd hsd hL h).mono ?_
 rintro e w' ⟨v0, rfl, hv, hb⟩
 obtain ⟨A, c, rfl, hl, hC⟩ := Kd.S_reads hv
 exact ⟨A, c, rfl, hl, hC, hb⟩
end Go.Proofs.YthgfdnffnbclpaaGreatDoor.PAll
namespace Go.Proofs.YthgfdnffnbclpaaGreatDoor.PAll
open Go.RowKit Go.Proofs.YthgfdnffnbclpaaGreatDoorW.PrintWords Go.Proofs.YthgfdnffnbclpaaGreatDoorW.PrintLast Go.Proofs.YthgfdnffnbclpaaGreatDoorW.PrintMore
theorem zk1 (w : World) (o1 o2 o3 : Obj) : (((w.alloc o1).alloc o2).alloc o3).heap[w.heap.size]? = some o1 ∧ (((w.alloc o1).alloc o2).alloc o3).heap[w.heap.size + 1]? = some o2 ∧ (((w.alloc o1).alloc o2).alloc o3).heap[w.heap.size + 1 + 1]? = some o3 := by
 have s1 : (w.alloc o1).heap.size = w.heap.size + 1 := Array.size_push _
 have s2 : ((w.alloc o1).alloc o2).heap.size = w.heap.size + 1 + 1 := by rw [← s1]; exact Array.size_push _
 refine ⟨?_, ?_, ?_⟩
 ·rw [Go.Deep.blk_alloc_lt _ _ _ (by omega), Go.Deep.blk_alloc_lt _ _ _ (by omega)]; exact Go.Deep.blk_alloc_new w o1
 ·rw [Go.Deep.blk_alloc_lt _ _ _ (by omega), ← s1]; exact Go.Deep.blk_alloc_new _ o2
 ·rw [← s2]; exact Go.Deep.blk_alloc_new _ o3
set_option maxHeartbeats 4000000 in
set_option maxRecDepth 100000 in
theorem zdT (x : S49) (P1 : Option Addr) (p1 : Nat) (P2 : Option Addr) (p2 : Nat) (P3 : Option Addr) (p3 : Nat) (P4 : Option Addr) (p4 : Nat) (w : World) (C1 : Kd.C k78 w P1 x.f1.length x.f1) (m1 : x.f1.length ≤ p1)
  (C2 : Kd.C (Kd.slice 3 (Kd.int .i64)) w P2 x.f2.length x.f2) (m2 : x.f2.length ≤ p2) (C3 : Kd.C k75 w P3 x.f3.length x.f3) (m3 : x.f3.length ≤ p3) (C4 : Kd.C (Kd.int .i64) w P4 x.f4.length x.f4) (m4 : x.f4.length ≤ p4) (hs : zkq x) :
  Calls Tryz.prog 32 #[.agg #[.string x.f0, .slice P1 x.f1.length p1, .slice P2 x.f2.length p2, .slice P3 x.f3.length p3, .slice P4 x.f4.length p4]] w fun e w' => ∃ v1 v2 v3 v4 : Value, e = .returned (.agg #[.string x.f0, v1, v2, v3, v4]) ∧ MA w' w.heap.size (fun _ => True) x [.string x.f0, v1, v2, v3, v4] ∧ Below w.heap.size w w' := by
 have HC1 := Aside0.mk C1
 have HC2 := Aside0.mk C2
 have HC3 := Aside0.mk C3
 have HC4 := Aside0.mk C4
 have HSM := Aside0.mk hs
 clear C1 C2 C3 C4 hs
 go_enter Tryz.func32, Tryz.ntmps32
 go_upto_region 2 with (fail)
 obtain ⟨B, hB⟩ : ∃ B, B = w.heap.size := ⟨_, rfl⟩
 obtain ⟨Wa, hWa⟩ : ∃ W, W = (((w.alloc (Obj.cells #[Value.string x.f0, Value.slice P1 x.f1.length p1, Value.slice P2 x.f2.length p2, Value.slice P3 x.f3.length p3, Value.slice P4 x.f4.length p4] 72)).alloc (Obj.cells #[Value.string ⟨#[]⟩, Value.slice none 0 0, Value.slice none 0 0, Value.slice none 0 0, Value.slice none 0 0] 72)).alloc (Obj.cells #[Value.string x.f0, Value.slice none 0 0, Value.slice none 0 0, Value.slice none 0 0, Value.slice none 0 0] 72)) := ⟨_, rfl⟩
 obtain ⟨b1, b2, b3⟩ : Wa.heap[B]? = some (.cells #[Value.string x.f0, Value.slice P1 x.f1.length p1, Value.slice P2 x.f2.length p2, Value.slice P3 x.f3.length p3, Value.slice P4 x.f4.length p4] 72 (0, 0)) ∧ Wa.heap[B + 1]? = some (.cells #[Value.string ⟨#[]⟩, Value.slice none 0 0, Value.slice none 0 0, Value.slice none 0 0, Value.slice none 0 0] 72 (0, 0)) ∧ Wa.heap[B + 1 + 1]? = some (.cells #[Value.string x.f0, Value.slice none 0 0, Value.slice none 0 0, Value.slice none 0 0, Value.slice none 0 0] 72 (0, 0)) := by rw [hWa, hB]; exact zk1 _ _ _ _
 have hba : Below w.heap.size w Wa := by rw [hWa]; exact (((Below.refl _ _).alloc (Nat.le_refl _) _).alloc (by simp) _).alloc (by simp; omega) _
 rw [← hWa, ← hB]
 have hBw : w.heap.size = B := hB.symm
 clear hWa hB
 have HBa := Aside0.mk hba
 have B1 := Aside0.mk b1
 have B2 := Aside0.mk b2
 have hx1 : Wa.cell? ⟨B, 1, none⟩ = some (Value.slice P1 x.f1.length p1) := (zad b1 1).trans rfl
 have hlen1 := HSM.out.1
 have HR1 := Aside0.mk (Kd.C_below HC1.out hba)
 have HLEN1 := Aside0.mk hlen1
 have HXA := Aside0.mk hx1
 have B3 := Aside0.mk b3
 have HW := Aside0.mk (Below.refl Wa.heap.size Wa)
 clear b1 b2 b3 hba hlen1
 clear hx1
 go_upto_region 3 with (first
   | ((with_reducible refine zaK (N := 10) rfl ?_); refine Kd.R_lit k78 _ 83 ?hg (N := 10) ?hd (xs := ([] : List (S78))) (inner := []) (ok := fun _ => True) (okp := fun _ => True) ?hr ?hp (fun _ hk => hk) trivial (Below.refl _ _) (Nat.le_refl _) (by simp) ?_; (case hd => rfl); (case hg => rfl); (case hr => first | (go_simp; done) | (go_simp; rfl)); (case hp => exact (Reps.none _ _)); intro v5 w6 ho7 hb hg_ hnew_; clear hg_ hnew_; have HO5 := Aside0.mk (Kd.R_lower ho7 (zal HW.out)); have hx1 := (hb.cell (World.block_lt_of_cell? Wa _ HXA.out)).trans HXA.out; have n2_ := Aside0.mk (below_step HW.out hb); clear HW; have HW := n2_; clear n2_ hb ho7)
   | ((with_reducible refine zam (b := .append) (xs := #[.tmp 10, .tmp 12]) rfl ?_); at_builtin; refine Kd.R_append_rows k78 (w0 := Wa) Wa.heap.size rfl (.tmp 10) (.tmp 12) 67 83 (.agg #[(.string ⟨#[]⟩), (.int .u8 0), (.bool false), (.int .i64 0), (.int .i64 0)]) 40 rfl Tryz.underlying67 zhg rfl (by decide) (by omega) v5 [] x.f1 _ _ _ (fun _ => True) (fun _ => False) rfl rfl ?aO ?aR (fun _ _ h => h) (fun _ h => h.elim) ?aF ?aB ?aS ?aL ?_; (case aR => exact Kd.C_below HR1.out HW.out); (case aB => exact HW.out); (case aF => exact (fun _ _ => trivial)); (case aO => exact HO5.out); (case aS => exact zal HW.out); (case aL => have := HLEN1.out; simp; omega); intro v7 w8 ho hb hg hat; rw [List.nil_append] at ho; obtain ⟨A5, c5, e5⟩ := Kd.R_slice ho; subst e5; have HO7 := Aside0.mk ho; have HW8 := Aside0.mk hb; have b3 := (hb.block _ (zah B3.out)).trans B3.out; have hc3 : w8.cell? ⟨B + 1 + 1, 1, none⟩ = some (Value.slice none 0 0) := (zad b3 1).trans rfl; have hf3 := zaf b3 1; clear ho hb hg hat))
 obtain ⟨Wb, hWb⟩ : ∃ W, W = w8.setCell ⟨B + 1 + 1, 1, none⟩ (Value.slice A5 x.f1.length c5) := ⟨_, rfl⟩
 have hlt3 : B + 1 + 1 < Wa.heap.size := zah B3.out
 have b1 : Wb.heap[B]? = some (.cells #[Value.string x.f0, Value.slice P1 x.f1.length p1, Value.slice P2 x.f2.length p2, Value.slice P3 x.f3.length p3, Value.slice P4 x.f4.length p4] 72 (0, 0)) := by rw [hWb, Below.heap_setCell _ _ _ _ (by show B ≠ B + 1 + 1; omega)]; exact (HW8.out.block _ (zah B1.out)).trans B1.out
 have b2 : Wb.heap[B + 1]? = some (.cells #[Value.string ⟨#[]⟩, Value.slice none 0 0, Value.slice none 0 0, Value.slice none 0 0, Value.slice none 0 0] 72 (0, 0)) := by rw [hWb, Below.heap_setCell _ _ _ _ (by show B + 1 ≠ B + 1 + 1; omega)]; exact (HW8.out.block _ (zah B2.out)).trans B2.out
 have b3b : Wb.heap[B + 1 + 1]? = some (.cells #[Value.string x.f0, Value.slice A5 x.f1.length c5, Value.slice none 0 0, Value.slice none 0 0, Value.slice none 0 0] 72 (0, 0)) := by rw [hWb]; exact zas b3 1 _ rfl
 have hbb : Below w.heap.size w Wb := by rw [hWb]; exact zag (below_step HBa.out HW8.out) (by omega)
 have hV1 : Kd.R k78 83 Wb w.heap.size (fun k => B + 1 + 1 < k ∧ k < Wb.heap.size) (Value.slice A5 x.f1.length c5) x.f1 := by
  have h1 : Kd.R k78 83 Wb w.heap.size (fun k => B + 1 + 1 < k) (Value.slice A5 x.f1.length c5) x.f1 := by rw [hWb]; exact Kd.R_lower (Kd.R_far (Kd.R_mono (Kd.R_bound HO7.out) (fun k hk => Nat.lt_of_lt_of_le hlt3 hk.2.1)) (fun k hk => Nat.ne_of_gt hk) _) HBa.out.size
  exact Kd.R_mono (Kd.R_bound h1) (fun k hk => ⟨hk.1, hk.2.2.1⟩)
 have hlt4 : B + 1 + 1 < Wb.heap.size := zah b3b
 rw [← hWb]
 clear hWb B1 B2 B3 HO7 HW8 HBa b3 hc3 hf3 HR1 HXA HW HO5 HLEN1
 have B1 := Aside0.mk b1
 have B2 := Aside0.mk b2
 have B3 := Aside0.mk b3b
 have HBB := Aside0.mk hbb
 have HV1 := Aside0.mk hV1
 have HV2 : Aside0 (Kd.R (Kd.slice 3 (Kd.int .i64)) 70 Wb w.heap.size (fun k => Wb.heap.size ≤ k) (Value.slice none 0 0) []) := ⟨Kd.R_nil _ _ _ _ _⟩
 clear b1 b2 b3b hbb hV1
 go_wp2
 go_loopg [4] x.f2.length (fun gk v4 wx => ∃ (i : Nat) (v2 : Value), i + gk = x.f2.length ∧ v4 = .int .i64 i ∧ Aside0 (wx.heap[B]? = some (.cells #[Value.string x.f0, Value.slice P1 x.f1.length p1, Value.slice P2 x.f2.length p2, Value.slice P3 x.f3.length p3, Value.slice P4 x.f4.length p4] 72 (0, 0))) ∧ Aside0 (wx.heap[B + 1]? = some (.cells #[Value.string ⟨#[]⟩, Value.slice none 0 0, Value.slice none 0 0, Value.slice none 0 0, Value.slice none 0 0] 72 (0, 0))) ∧ Aside0 (wx.heap[B + 1 + 1]? = some (.cells #[Value.string x.f0, Value.slice A5 x.f1.length c5, v2, Value.slice none 0 0, Value.slice none 0 0] 72 (0, 0)))
  ∧ Aside0 (Below w.heap.size w wx) ∧ Aside0 (Kd.R k78 83 wx w.heap.size (fun k => B + 1 + 1 < k ∧ k < Wb.heap.size) (Value.slice A5 x.f1.length c5) x.f1) ∧ Aside0 (Kd.R (Kd.slice 3 (Kd.int .i64)) 70 wx w.heap.size (fun k => Wb.heap.size ≤ k) v2 (x.f2.take i)) ∧ Aside0 (Wb.heap.size ≤ wx.heap.size))
 case atStart => exact ⟨0, _, by omega, rfl, B1, B2, B3, HBB, HV1, by simpa using HV2, ⟨Nat.le_refl _⟩⟩
 case round =>
  clear B1 B2 B3 HBB HV1 HV2
  obtain ⟨i, v2, hi, rfl, B1, B2, B3, HB, HV1, HV2, HSZ⟩ := hrel
  cases gk with
  | succ gk =>
   have hlt : i < x.f2.length := by omega
   have hii : (i : Int) < (x.f2.length : Int) := by omega
   have hi0 : (0 : Int) ≤ (i : Int) := by omega
   obtain ⟨ad, Ar, cr, hA, hx, hcr, hCr⟩ := zcJ HC2.out (i : Int) hi0 hii
   subst hA
   have hrd : rd_L6 x.f2 (i : Int) = x.f2[i] := by unfold rd_L6; simp [List.getD, hlt]
   rw [hrd] at hx hcr hCr
   rw [Int.toNat_natCast] at hx
   have hrow := HSM.out.2.1.2 x.f2[i] (List.getElem_mem hlt)
   have HLT := Aside0.mk (zay hlt)
   have hpl : (x.f2.take i).length ≤ 2000000 := by rw [List.length_take]; have := HSM.out.2.1.1; omega
   obtain ⟨A2, c2, e2⟩ := Kd.R_slice HV2.out
   subst e2
   generalize x.f2[i] = row at *
   generalize x.f2.take i = pre at *
   have HPL := Aside0.mk hpl
   have HRWL := Aside0.mk hrow
   have HKS : Aside0 (∀ W, Below w.heap.size w W → W.cell? (ad.add i) = some (.slice Ar row.length cr)) := ⟨fun W hW => (hW.cell (World.block_lt_of_cell? w _ hx)).trans hx⟩
   have HCW := Aside0.mk hCr
   have HBD := Aside0.mk (zab HB.out)
   have B1d : Aside0 (wr.drew.heap[B]? = some (.cells #[Value.string x.f0, Value.slice P1 x.f1.length p1, Value.slice (some ad) x.f2.length p2, Value.slice P3 x.f3.length p3, Value.slice P4 x.f4.length p4] 72 (0, 0))) := ⟨B1.out⟩
   have B2d : Aside0 (wr.drew.heap[B + 1]? = some (.cells #[Value.string ⟨#[]⟩, Value.slice none 0 0, Value.slice none 0 0, Value.slice none 0 0, Value.slice none 0 0] 72 (0, 0))) := ⟨B2.out⟩
   have B3d : Aside0 (wr.drew.heap[B + 1 + 1]? = some (.cells #[Value.string x.f0, Value.slice A5 x.f1.length c5, Value.slice A2 pre.length c2, Value.slice none 0 0, Value.slice none 0 0] 72 (0, 0))) := ⟨B3.out⟩
   have HV1d := Aside0.mk (Kd.R_drew HV1.out)
   have HV2d := Aside0.mk (Kd.R_drew HV2.out)
   have HSZd : Aside0 (Wb.heap.size ≤ wr.drew.heap.size) := ⟨HSZ.out⟩
   have hd : wr.drew.cell? ⟨B + 1 + 1, 2, none⟩ = some (Value.slice A2 pre.length c2) ∧ wr.drew.cell? ⟨B, 2, none⟩ = some (Value.slice (some ad) x.f2.length p2) ∧ wr.drew.cell? (ad.add i) = some (.slice Ar row.length cr) := ⟨(zad B3.out 2).trans rfl, (zad B1.out 2).trans rfl, HKS.out _ HBD.out⟩
   have hx2 : wr.cell? ⟨B, 2, none⟩ = some (Value.slice (some ad) x.f2.length p2) := (zad B1.out 2).trans rfl
   clear hx hCr hrow hpl hrd HV1 HV2 HSZ B1 B2 B3 HB
   go_wp2
   clear hx2
   refine zbI (n := 13) (S := fun W => W.cell? ⟨B + 1 + 1, 2, none⟩ = some (Value.slice A2 pre.length c2) ∧ W.cell? ⟨B, 2, none⟩ = some (Value.slice (some ad) x.f2.length p2) ∧ W.cell? (ad.add i) = some (.slice Ar row.length cr)) (ds := [12]) #[false, false, false, false, false, false, false, false, false, false, false, false, false] (by kernel_rfl) rfl rfl hd (fun hHeld => ?_)
   clear hd
   generalize wr.drew = W1 at *
   refine zau (i := 0) (N := some 22) (v := ?_) (a' := ?_) #[true, false, false, false, false, false, false, false, false, false, false, false, false] rfl rfl (by kernel_rfl) (fun _ _ _ h => h) (Or.inl ⟨by rfl, ?_⟩) ?_ ?_
   rotate_left
   ·intro w'; go_simp; with_reducible rfl
   rotate_left
   ·simp only [Act.put, List.setIfInBounds_toArray, List.set_cons_zero, List.set_cons_succ, zaj, zak]; rfl
   refine take_ (i := 1) (N := some 23) (v := ?_) (a' := ?_) #[true, true, false, false, false, false, false, false, false, false, false, false, false] rfl rfl (by kernel_rfl) (fun _ _ _ h => h) (Or.inl ⟨by rfl, ?_⟩) hHeld ?_ ?_
   rotate_left
   ·rintro w' ⟨s0, s1, s2⟩; go_simp; with_reducible rfl
   rotate_left
   ·simp only [Act.put, List.setIfInBounds_toArray, List.set_cons_zero, List.set_cons_succ, zaj, zak]; rfl
   refine zau (i := 3) (N := some 25) (v := ?_) (a' := ?_) #[true, true, false, true, false, false, false, false, false, false, false, false, false] rfl rfl (by kernel_rfl) (fun _ _ _ h => h) (Or.inl ⟨by rfl, ?_⟩) ?_ ?_
   rotate_left
   ·intro w'; go_simp; with_reducible rfl
   rotate_left
   ·simp only [Act.put, List.setIfInBounds_toArray, List.set_cons_zero, List.set_cons_succ, zaj, zak]; rfl
   refine take_ (i := 4) (N := some 26) (v := ?_) (a' := ?_) #[true, true, false, true, true, false, false, false, false, false, false, false, false] rfl rfl (by kernel_rfl) (fun _ _ _ h => h) (Or.inl ⟨by rfl, ?_⟩) hHeld ?_ ?_
   rotate_left
   ·rintro w' ⟨s0, s1, s2⟩; go_simp; with_reducible rfl
   rotate_left
   ·simp only [Act.put, List.setIfInBounds_toArray, List.set_cons_zero, List.set_cons_succ, zaj, zak]; rfl
   refine zau (i := 5) (N := some 27) (v := ?_) (a' := ?_) #[true, true, false, true, true, true, false, false, false, false, false, false, false] rfl rfl (by kernel_rfl) (fun _ _ _ h => h) (Or.inl ⟨by rfl, ?_⟩) ?_ ?_
   rotate_left
   ·intro w'; go_simp; with_reducible rfl
   rotate_left
   ·simp only [Act.put, List.setIfInBounds_toArray, List.set_cons_zero, List.set_cons_succ, zaj, zak]; rfl
   refine zau (i := 6) (N := some 28) (v := ?_) (a' := ?_) #[true, true, false, true, true, true, true, false, false, false, false, false, false] rfl rfl (by kernel_rfl) (fun _ _ _ h => h) (Or.inl ⟨by rfl, ?_⟩) ?_ ?_
   rotate_left
   ·intro w'; go_simp; with_reducible rfl
   rotate_left
   ·simp only [Act.put, List.setIfInBounds_toArray, List.set_cons_zero, List.set_cons_succ, zaj, zak]; rfl
   refine take_ (i := 7) (N := some 29) (v := ?_) (a' := ?_) #[true, true, false, true, true, true, true, true, false, false, false, false, false] rfl rfl (by kernel_rfl) (fun _ _ _ h => h) (Or.inl ⟨by rfl, ?_⟩) hHeld ?_ ?_
   rotate_left
   ·rintro w' ⟨s0, s1, s2⟩; go_simp; with_reducible rfl
   rotate_left
   ·simp only [Act.put, List.setIfInBounds_toArray, List.set_cons_zero, List.set_cons_succ, zaj, zak]; rfl
   refine one_ (i := 2) (N := some 24) #[true, true, true, true, true, true, true, true, false, false, false, false, false] rfl rfl (by kernel_rfl) (by decide) (fun K hK => ?_)
   refine Kd.R_lit_step (Kd.int .i64) (w0 := W1) W1.heap.size 3 (by rfl) (N := 24) rfl (xs := ([] : List Int)) (inner := []) (ok := fun _ => True) (okp := fun _ => True) ?hr (Reps.none _ _) (fun _ hk => hk) trivial (Below.refl _ _) (Nat.le_refl _) (by simp) ?_
   case hr => first | (go_simp; done) | (go_simp; rfl)
   intro v6 W2 ho6 hb6 hg6 _
   have HS2 : Aside0 (W2.cell? ⟨B + 1 + 1, 2, none⟩ = some (Value.slice A2 pre.length c2) ∧ W2.cell? ⟨B, 2, none⟩ = some (Value.slice (some ad) x.f2.length p2) ∧ W2.cell? (ad.add i) = some (.slice Ar row.length cr)) := ⟨(hb6.cell (World.block_lt_of_cell? W1 _ hHeld.1)).trans hHeld.1, (hb6.cell (World.block_lt_of_cell? W1 _ hHeld.2.1)).trans hHeld.2.1, HKS.out _ (below_step HBD.out hb6)⟩
   refine hK.out _ _ HS2.out (fun hHeld2 => ?_)
   clear hK K hHeld2
   refine za8 (a' := ?_) ?_ ?_
   rotate_left
   ·show Act.put _ (some 24) _ = _; simp only [Act.put, List.setIfInBounds_toArray, List.set_cons_zero, List.set_cons_succ, zaj, zak]; rfl
   refine one_ (i := 8) (N := some 30) #[true, true, true, true, true, true, true, true, true, false, false, false, false] rfl rfl (by kernel_rfl) (by decide) (fun K hK => ?_)
   refine Kd.R_append_rows_step (Kd.int .i64) (w0 := W1) W1.heap.size (by rfl) (.tmp 24) (.tmp 29) 70 3 (.int .i64 0) 8 rfl Tryz.underlying70 zeY rfl (by decide) (by omega) v6 ([] : List Int) row Ar row.length cr (fun _ => True) (fun _ => False) rfl rfl ho6 (Kd.C_below HCW.out (below_step HBD.out hb6)) (fun _ _ h => h) (fun _ h => h.elim) (fun _ _ => trivial) hb6 hb6.size (by have := HRWL.out; simp; omega) ?_
   intro v7 W3 hv7 hb7 hg7 _
   rw [List.nil_append] at hv7
   obtain ⟨A7, c7, e7⟩ := Kd.R_slice hv7
   subst e7
   refine hK.out _ _ ⟨(hb7.cell (World.block_lt_of_cell? W1 _ hHeld.1)).trans hHeld.1, (hb7.cell (World.block_lt_of_cell? W1 _ hHeld.2.1)).trans hHeld.2.1, HKS.out _ (below_step HBD.out hb7)⟩ (fun hHeld3 => ?_)
   clear hK K ho6 hb6 hg6 HS2 hg7
   refine za8 (a' := ?_) ?_ ?_
   rotate_left
   ·show Act.put _ (some 30) _ = _; simp only [Act.put, List.setIfInBounds_toArray, List.set_cons_zero, List.set_cons_succ, zaj, zak]; rfl
   refine one_ (i := 9) (N := some 31) #[true, true, true, true, true, true, true, true, true, true, false, false, false] rfl rfl (by kernel_rfl) (by decide) (fun K hK => ?_)
   refine za7 (by rfl) (v := .slice (some ⟨W3.heap.size, 0, none⟩) 1 1) (w1 := W3.alloc (.cells #[.slice A7 row.length c7] 70)) ?hr2 ?_
   case hr2 => first | (go_simp; done) | (go_simp; rfl)
   have hba := zac (Below.refl W3.heap.size W3) (.cells #[.slice A7 row.length c7] 70)
   refine hK.out _ _ ⟨(hba.cell (World.block_lt_of_cell? W3 _ hHeld3.1)).trans hHeld3.1, (hba.cell (World.block_lt_of_cell? W3 _ hHeld3.2.1)).trans hHeld3.2.1, HKS.out _ (below_step (below_step HBD.out hb7) hba)⟩ (fun hHeld4 => ?_)
   clear hK K hba hHeld4
   refine za8 (a' := ?_) ?_ ?_
   rotate_left
   ·show Act.put _ (some 31) _ = _; simp only [Act.put, List.setIfInBounds_toArray, List.set_cons_zero, List.set_cons_succ, zaj, zak]; rfl
   have HB7 := Aside0.mk hb7
   have HV7 := Aside0.mk hv7
   have HB73 : Aside0 (Below w.heap.size w W3) := ⟨below_step HBD.out hb7⟩
   refine one_ (i := 10) (N := some 32) #[true, true, true, true, true, true, true, true, true, true, true, false, false] rfl rfl (by kernel_rfl) (by decide) (fun K hK => ?_)
   refine Kd.R_append_step (Kd.slice 3 (Kd.int .i64)) (w0 := w) w.heap.size (by rfl) (.tmp 23) (.tmp 31) 68 70 (.slice none 0 0) 24 rfl Tryz.underlying68 zhp rfl (by decide) (by omega) (.slice A2 pre.length c2) pre row [.slice A7 row.length c7] (fun k => Wb.heap.size ≤ k) (fun k => W1.heap.size ≤ k) rfl rfl ?aP ?aQ ?aF ?aO HB73.out HB73.out.size (by have := HPL.out; omega) ?_
   case aP => exact Kd.M_row (Kd.R_lower (Kd.R_mono (Kd.R_bound HV7.out) (fun _ hk => hk.2.1)) HBD.out.size)
   case aQ => exact fun k hk => ⟨Nat.le_trans HSZd.out hk, fun he => by have := Kd.R_lt HV2d.out k he.symm; omega⟩
   case aF => exact fun k hk => Nat.le_trans HSZd.out (Nat.le_trans HB7.out.size hk)
   case aO => exact Kd.R_below HV2d.out HB7.out
   intro v8 W5 hv8 hb8 hg8 _
   generalize hl2 : pre ++ [row] = pre2 at *
   have HL2 := Aside0.mk hl2
   clear hl2
   obtain ⟨A8, c8, e8⟩ := Kd.R_slice hv8
   subst e8
   have hne : ∀ q, q ≤ B + 1 + 1 → some q ≠ (Value.slice A2 pre.length c2).ownBlock := fun q hq he => by have := HV2d.out.1 q he.symm; omega
   have hb : ∀ q, q ≤ B + 1 + 1 → q < W1.heap.size → W5.heap[q]? = W1.heap[q]? := fun q hq hlq => (hg8.block q (Nat.lt_of_lt_of_le hlq HB7.out.size) (hne q hq)).trans (HB7.out.block q hlq)
   have c1 := (hb B (by omega) (zah B1d.out)).trans B1d.out
   have c2' := (hb (B + 1) (by omega) (zah B2d.out)).trans B2d.out
   have c3 := (hb (B + 1 + 1) (by omega) (zah B3d.out)).trans B3d.out
   refine hK.out _ _ ⟨(zad c3 2).trans rfl, (zad c1 2).trans rfl, HKS.out _ hb8⟩ (fun hHeld5 => ?_)
   clear hK K
   refine za8 (a' := ?_) ?_ ?_
   rotate_left
   ·show Act.put _ (some 32) _ = _; simp only [Act.put, List.setIfInBounds_toArray, List.set_cons_zero, List.set_cons_succ, zaj, zak]; rfl
   refine zau (i := 11) (N := some 33) (v := ?_) (a' := ?_) #[true, true, true, true, true, true, true, true, true, true, true, true, false] rfl rfl (by kernel_rfl) (fun _ _ _ h => h) (Or.inl ⟨by rfl, ?_⟩) ?_ ?_
   rotate_left
   ·intro w'; go_simp; with_reducible rfl
   rotate_left
   ·simp only [Act.put, List.setIfInBounds_toArray, List.set_cons_zero, List.set_cons_succ, zaj, zak]; rfl
   refine zfh (i := 12) (N := none) #[true, true, true, true, true, true, true, true, true, true, true, true, true] rfl rfl (by kernel_rfl) (by decide) (fun K hK => ?_)
   refine zaL (by rfl) 68 (.tmp 33) (.tmp 32) rfl rfl rfl rfl (zaG 68 (.slice A8 pre2.length c8) [.slice A8 pre2.length c8] c3 rfl (by kernel_rfl) (by show 2 + 1 ≤ 5; omega) (by simp [Value.oneCell'])) ?_
   refine hK.out _ _ ?_
   clear hK K
   refine zc8 (by kernel_rfl) ?_
   have hv1 := Kd.R_grown (Kd.R_below HV1d.out HB7.out) hg8 (fun k hk he => by have := HV2d.out.1 k he.symm; omega)
   have hW6 : Below w.heap.size w (W5.setCells (B + 1 + 1) 2 [.slice A8 pre2.length c8]) := Go.below_setCells (by omega) _ _ _ hb8
   have hV1e : Kd.R k78 83 (W5.setCells (B + 1 + 1) 2 [.slice A8 pre2.length c8]) w.heap.size (fun k => B + 1 + 1 < k ∧ k < Wb.heap.size) (Value.slice A5 x.f1.length c5) x.f1 := Kd.R_step hv1 (fun k hk _ => zaX _ _ k (Nat.ne_of_gt hk.1))
   have hV2e : Kd.R (Kd.slice 3 (Kd.int .i64)) 70 (W5.setCells (B + 1 + 1) 2 [.slice A8 pre2.length c8]) w.heap.size (fun k => Wb.heap.size ≤ k) (.slice A8 pre2.length c8) pre2 := Kd.R_step hv8 (fun k hk _ => zaX _ _ k (by omega))
   have d1 := (zaX [.slice A8 pre2.length c8] 2 B (by omega : B ≠ B + 1 + 1)).trans c1
   have d2 := (zaX [.slice A8 pre2.length c8] 2 (B + 1) (by omega : B + 1 ≠ B + 1 + 1)).trans c2'
   have d3 : (W5.setCells (B + 1 + 1) 2 [.slice A8 pre2.length c8]).heap[B + 1 + 1]? = some (.cells #[Value.string x.f0, Value.slice A5 x.f1.length c5, Value.slice A8 pre2.length c8, Value.slice none 0 0, Value.slice none 0 0] 72 (0, 0)) := zas c3 2 _ rfl
   have hsz : Wb.heap.size ≤ (W5.setCells (B + 1 + 1) 2 [.slice A8 pre2.length c8]).heap.size := by rw [(zbS _ _ _ _).2.2.2]; exact Nat.le_trans HSZd.out (Nat.le_trans HB7.out.size hg8.size)
   generalize (W5.setCells (B + 1 + 1) 2 [Value.slice A8 pre2.length c8]) = W6 at *
   have D1 := Aside0.mk d1
   have D2 := Aside0.mk d2
   have D3 := Aside0.mk d3
   have HW6 := Aside0.mk hW6
   have HV1e := Aside0.mk hV1e
   have HV2e := Aside0.mk hV2e
   have HSZe := Aside0.mk hsz
   clear d1 d2 d3 hW6 hV1e hV2e hsz hv1 c1 c2' c3 hb hne hv8 hb8 hg8 hHeld hHeld3 hHeld5 hv7 hb7 HV7 HB7 HB73 HV1d HV2d B1d B2d B3d HSZd HBD HKS HCW
   go_wp2
   go_roundg gk
   case measure => omega
   case rel => exact ⟨i + 1, Value.slice A8 pre2.length c8, by omega, by first | rfl | (simp; done) | (have := HSM.out.2.1.1; simp; unfold wrap64; omega), D1, D2, D3, HW6, HV1e, ⟨by rw [HLT.out]; exact HV2e.out⟩, HSZe⟩
  | zero =>
   have hii : ¬ (i : Int) < (x.f2.length : Int) := by omega
   have e : x.f2.take i = x.f2 := List.take_of_length_le (by omega)
   rw [e] at HV2
   obtain ⟨A6, c6, e6⟩ := Kd.R_slice HV2.out
   subst e6
   have hx2 : wr.cell? ⟨B, 2, none⟩ = some (Value.slice P2 x.f2.length p2) := (zad B1.out 2).trans rfl
   have HV3 : Aside0 (Kd.R k75 75 wr w.heap.size (fun k => wr.heap.size ≤ k) (Value.slice none 0 0) []) := ⟨Kd.R_nil _ _ _ _ _⟩
   have HV2b : Aside0 (Kd.R (Kd.slice 3 (Kd.int .i64)) 70 wr w.heap.size (fun k => Wb.heap.size ≤ k ∧ k < wr.heap.size) (Value.slice A6 x.f2.length c6) x.f2) := ⟨Kd.R_mono (Kd.R_bound HV2.out) (fun k hk => ⟨hk.1, hk.2.2.1⟩)⟩
   obtain ⟨N2, hN2⟩ : ∃ n : Nat, n = wr.heap.size := ⟨_, rfl⟩
   rw [← hN2] at HV2b HV3 HSZ
   have HSZ2 : Aside0 (N2 ≤ wr.heap.size) := ⟨Nat.le_of_eq hN2⟩
   clear hN2 HV2 e
   go_wp2
   clear hx2
   go_loopg [5] x.f3.length (fun gk v5 wx => ∃ (i : Nat) (v3 : Value), i + gk = x.f3.length ∧ v5 = .int .i64 i ∧ Aside0 (wx.heap[B]? = some (.cells #[Value.string x.f0, Value.slice P1 x.f1.length p1, Value.slice P2 x.f2.length p2, Value.slice P3 x.f3.length p3, Value.slice P4 x.f4.length p4] 72 (0, 0))) ∧ Aside0 (wx.heap[B + 1]? = some (.cells #[Value.string ⟨#[]⟩, Value.slice none 0 0, Value.slice none 0 0, Value.slice none 0 0, Value.slice none 0 0] 72 (0, 0))) ∧ Aside0 (wx.heap[B + 1 + 1]? = some (.cells #[Value.string x.f0, Value.slice A5 x.f1.length c5, Value.slice A6 x.f2.length c6, v3, Value.slice none 0 0] 72 (0, 0)))
    ∧ Aside0 (Below w.heap.size w wx) ∧ Aside0 (Kd.R k78 83 wx w.heap.size (fun k => B + 1 + 1 < k ∧ k < Wb.heap.size) (Value.slice A5 x.f1.length c5) x.f1) ∧ Aside0 (Kd.R (Kd.slice 3 (Kd.int .i64)) 70 wx w.heap.size (fun k => Wb.heap.size ≤ k ∧ k < N2) (Value.slice A6 x.f2.length c6) x.f2)
    ∧ Aside0 (Kd.R k75 75 wx w.heap.size (fun k => N2 ≤ k) v3 (x.f3.take i)) ∧ Aside0 (N2 ≤ wx.heap.size))
   case atStart => exact ⟨0, _, by omega, rfl, B1, B2, B3, HB, HV1, HV2b, by simpa using HV3, HSZ2⟩
   case round =>
    clear B1 B2 B3 HB HV1 HV2b HV3 HSZ2
    obtain ⟨m, v3, hm, rfl, B1, B2, B3, HB, HV1, HV2, HV3, HSZ2⟩ := hrel
    cases gk with
    | succ gk =>
     have hlt : m < x.f3.length := by omega
     have hmm : (m : Int) < (x.f3.length : Int) := by omega
     have hm0 : (0 : Int) ≤ (m : Int) := by omega
     obtain ⟨ad, Ar, cr, hA, z0, z1, z2, hcr, hCr⟩ := zdD HC3.out (m : Int) hm0 hmm
     subst hA
     have hrd : rd_T75 x.f3 (m : Int) = x.f3[m] := by unfold rd_T75; simp [List.getD, hlt]
     rw [hrd] at z0 z1 z2 hcr hCr
     rw [Int.toNat_natCast] at z0 z1 z2
     replace z0 := (HB.out.cell (World.block_lt_of_cell? w _ z0)).trans z0
     replace z1 := (HB.out.cell (World.block_lt_of_cell? w _ z1)).trans z1
     replace z2 := (HB.out.cell (World.block_lt_of_cell? w _ z2)).trans z2
     have hrow := HSM.out.2.2.1.2 x.f3[m] (List.getElem_mem hlt)
     have HLT := Aside0.mk (zay hlt)
     have hpl : (x.f3.take m).length ≤ 2000000 := by rw [List.length_take]; have := HSM.out.2.2.1.1; omega
     obtain ⟨A3, c3, e3⟩ := Kd.R_slice HV3.out
     subst e3
     generalize x.f3[m] = y at *
     generalize x.f3.take m = pre at *
     have HPL := Aside0.mk hpl
     have HRWL := Aside0.mk hrow
     have HCW := Aside0.mk hCr
     have hx3 : wr.cell? ⟨B, 3, none⟩ = some (Value.slice (some ad) x.f3.length p3) := (zad B1.out 3).trans rfl
     clear hCr hrow hpl hrd
     go_upto_region 11 with (fail)
     obtain ⟨G, hG⟩ : ∃ G, G = wr.heap.size := ⟨_, rfl⟩
     obtain ⟨We, hWe⟩ : ∃ W, W = wr.alloc (Obj.cells #[Value.slice Ar y.f0.length cr, Value.int .i64 y.f1, Value.int .i64 y.f2] 75) := ⟨_, rfl⟩
     have bG : We.heap[G]? = some (.cells #[Value.slice Ar y.f0.length cr, Value.int .i64 y.f1, Value.int .i64 y.f2] 75 (0, 0)) := by rw [hWe, hG]; exact Go.Deep.blk_alloc_new wr _
     have hBr : Below wr.heap.size wr We := by rw [hWe]; exact (Below.refl _ _).alloc (Nat.le_refl _) _
     have hGw : N2 ≤ G := by rw [hG]; exact HSZ2.out
     have hGe : G < We.heap.size := zah bG
     have hGr : wr.heap.size = G := hG.symm
     rw [← hWe, ← hG]
     clear hWe hG z0 z1 z2 hx3
     have HBe := Aside0.mk (below_step HB.out hBr)
     have hgx : We.cell? ⟨G, 0, none⟩ = some (Value.slice Ar y.f0.length cr) := (zad bG 0).trans rfl
     have HGX := Aside0.mk hgx
     have HGB := Aside0.mk bG
     have HW := Aside0.mk (Below.refl We.heap.size We)
     have HR4 := Aside0.mk (Kd.C_below HCW.out HBe.out)
     have HBR := Aside0.mk hBr
     clear hgx bG hBr
     go_upto_region 12 with (first
      | ((with_reducible refine zaK (N := 46) rfl ?_); refine Kd.R_lit (Kd.int .i64) _ 3 ?hg (N := 46) ?hd (xs := ([] : List (Int))) (inner := []) (ok := fun _ => True) (okp := fun _ => True) ?hr ?hp (fun _ hk => hk) trivial (Below.refl _ _) (Nat.le_refl _) (by simp) ?_; (case hd => rfl); (case hg => rfl); (case hr => first | (go_simp; done) | (go_simp; rfl)); (case hp => exact (Reps.none _ _)); intro v5 w6 ho7 hb hg_ hnew_; clear hg_ hnew_; have HO5 := Aside0.mk (Kd.R_lower ho7 (zal HW.out)); have hgx := (hb.cell (World.block_lt_of_cell? We _ HGX.out)).trans HGX.out; have n2_ := Aside0.mk (below_step HW.out hb); clear HW; have HW := n2_; clear n2_ hb ho7)
      | ((with_reducible refine zam (b := .append) (xs := #[.tmp 46, .tmp 48]) rfl ?_); at_builtin; refine Kd.R_append_rows (Kd.int .i64) (w0 := We) We.heap.size rfl (.tmp 46) (.tmp 48) 70 3 (.int .i64 0) 8 rfl Tryz.underlying70 zeY rfl (by decide) (by omega) v5 [] y.f0 _ _ _ (fun _ => True) (fun _ => False) rfl rfl ?aO ?aR (fun _ _ h => h) (fun _ h => h.elim) ?aF ?aB ?aS ?aL ?_; (case aR => exact Kd.C_below HR4.out HW.out); (case aB => exact HW.out); (case aF => exact (fun _ _ => trivial)); (case aO => exact HO5.out); (case aS => exact zal HW.out); (case aL => have := HRWL.out; simp; omega); intro v7 w8 ho hb hg hat; rw [List.nil_append] at ho; obtain ⟨A9, c9, e9⟩ := Kd.R_slice ho; subst e9; have HO7 := Aside0.mk ho; have HW8 := Aside0.mk hb; have bg := (hb.block _ (zah HGB.out)).trans HGB.out; have hcg : w8.cell? ⟨G, 0, none⟩ = some (Value.slice Ar y.f0.length cr) := (zad bg 0).trans rfl; have hfg := zaf bg 0; clear ho hb hg hat))
     obtain ⟨Wf, hWf⟩ : ∃ W, W = w8.setCell ⟨G, 0, none⟩ (Value.slice A9 y.f0.length c9) := ⟨_, rfl⟩
     have bF : Wf.heap[G]? = some (.cells #[Value.slice A9 y.f0.length c9, Value.int .i64 y.f1, Value.int .i64 y.f2] 75 (0, 0)) := by rw [hWf]; exact zas bg 0 _ rfl
     have hbf : Below wr.heap.size wr Wf := by rw [hWf]; exact zag (below_step HBR.out HW8.out) (by omega)
     have hRf : Kd.R (Kd.int .i64) 3 Wf w.heap.size (fun k => G < k) (Value.slice A9 y.f0.length c9) y.f0 := by rw [hWf]; exact Kd.R_lower (Kd.R_far (Kd.R_mono (Kd.R_bound HO7.out) (fun k hk => Nat.lt_of_lt_of_le hGe hk.2.1)) (fun k hk => Nat.ne_of_gt hk) _) HBe.out.size
     have hsf : G < Wf.heap.size := zah bF
     rw [← hWf]
     clear hWf bg hcg hfg HO7 HW8 HW HO5 HR4 HGB HGX HCW HBR HRWL
     have HBF := Aside0.mk (below_step HB.out hbf)
     have B1f : Aside0 (Wf.heap[B]? = some (.cells #[Value.string x.f0, Value.slice P1 x.f1.length p1, Value.slice P2 x.f2.length p2, Value.slice (some ad) x.f3.length p3, Value.slice P4 x.f4.length p4] 72 (0, 0))) := ⟨(hbf.block _ (zah B1.out)).trans B1.out⟩
     have B2f : Aside0 (Wf.heap[B + 1]? = some (.cells #[Value.string ⟨#[]⟩, Value.slice none 0 0, Value.slice none 0 0, Value.slice none 0 0, Value.slice none 0 0] 72 (0, 0))) := ⟨(hbf.block _ (zah B2.out)).trans B2.out⟩
     have B3f : Aside0 (Wf.heap[B + 1 + 1]? = some (.cells #[Value.string x.f0, Value.slice A5 x.f1.length c5, Value.slice A6 x.f2.length c6, Value.slice A3 pre.length c3, Value.slice none 0 0] 72 (0, 0))) := ⟨(hbf.block _ (zah B3.out)).trans B3.out⟩
     have HV1f := Aside0.mk (Kd.R_below HV1.out hbf)
     have HV2f := Aside0.mk (Kd.R_below HV2.out hbf)
     have HV3f := Aside0.mk (Kd.R_below (Kd.R_bound HV3.out) hbf)
     have HRF := Aside0.mk hRf
     have hz0 : Wf.cell? ⟨G, 0, none⟩ = some (Value.slice A9 y.f0.length c9) := (zad bF 0).trans rfl
     have hz1 : Wf.cell? ⟨G, 1, none⟩ = some (Value.int .i64 y.f1) := (zad bF 1).trans rfl
     have hz2 : Wf.cell? ⟨G, 2, none⟩ = some (Value.int .i64 y.f2) := (zad bF 2).trans rfl
     have hx3 : Wf.cell? ⟨B + 1 + 1, 3, none⟩ = some (Value.slice A3 pre.length c3) := (zad B3f.out 3).trans rfl
     clear hRf hbf bF B1 B2 B3 HV1 HV2 HV3 HB HSZ2
     go_upto_region 9 with ((with_reducible refine zam (b := .append) (xs := #[.tmp 52, .tmp 54]) rfl ?_); at_builtin; refine Kd.R_append k75 (w0 := w) w.heap.size rfl (.tmp 52) (.tmp 54) 69 75 (.agg #[(.slice none 0 0), (.int .i64 0), (.int .i64 0)]) 40 rfl Tryz.underlying69 zhh rfl (by decide) (by omega) (Value.slice A3 pre.length c3) pre y [Value.slice A9 y.f0.length c9, Value.int .i64 y.f1, Value.int .i64 y.f2] (fun k => N2 ≤ k) (fun k => G < k) rfl rfl ?aP ?aQ ?aF ?aO HBF.out HBF.out.size (by have := HPL.out; omega) ?_; (case aP => exact zfn _ _ _ y HRF.out); (case aQ => exact fun k hk => ⟨by omega, fun he => by have := (HV3f.out.1 k he.symm).2.2.1; omega⟩); (case aF => exact fun k hk => by omega); (case aO => exact Kd.R_mono HV3f.out (fun k hk => hk.1)); intro v9 w10 hv9 hb9 hg9 _; obtain ⟨A10, c10, e10⟩ := Kd.R_slice hv9; rw [List.length_append, List.length_singleton] at e10; subst e10; have hne : ∀ q, q ≤ B + 1 + 1 → some q ≠ (Value.slice A3 pre.length c3).ownBlock := (fun q hq he => by have := (HV3f.out.1 q he.symm).1; have := HSZ.out; omega); have b3 := (hg9.block (B + 1 + 1) (zah B3f.out) (hne _ (Nat.le_refl _))).trans B3f.out; have hc3 : w10.cell? ⟨B + 1 + 1, 3, none⟩ = some (Value.slice A3 pre.length c3) := (zad b3 3).trans rfl; have hf3 := zaf b3 3)
     have hvz1 : Kd.R k78 83 (w10.setCell ⟨B + 1 + 1, 3, none⟩ (Value.slice A10 (pre.length + 1) c10)) w.heap.size (fun k => B + 1 + 1 < k ∧ k < Wb.heap.size) (Value.slice A5 x.f1.length c5) x.f1 := Kd.R_far (Kd.R_grown HV1f.out hg9 (fun k hk he => by have := (HV3f.out.1 k he.symm).1; have := HSZ.out; omega)) (fun k hk => Nat.ne_of_gt hk.1) _
     have hvz2 : Kd.R (Kd.slice 3 (Kd.int .i64)) 70 (w10.setCell ⟨B + 1 + 1, 3, none⟩ (Value.slice A10 (pre.length + 1) c10)) w.heap.size (fun k => Wb.heap.size ≤ k ∧ k < N2) (Value.slice A6 x.f2.length c6) x.f2 := Kd.R_far (Kd.R_grown HV2f.out hg9 (fun k hk he => by have := (HV3f.out.1 k he.symm).1; omega)) (fun k hk => by show k ≠ B + 1 + 1; omega) _
     have hvz3 : Kd.R k75 75 (w10.setCell ⟨B + 1 + 1, 3, none⟩ (Value.slice A10 (pre.length + 1) c10)) w.heap.size (fun k => N2 ≤ k) (Value.slice A10 (pre.length + 1) c10) (pre ++ [y]) := Kd.R_far hv9 (fun k hk => by show k ≠ B + 1 + 1; have := HSZ.out; omega) _
     have d1 : (w10.setCell ⟨B + 1 + 1, 3, none⟩ (Value.slice A10 (pre.length + 1) c10)).heap[B]? = _ := (Below.heap_setCell _ _ _ _ (by show B ≠ B + 1 + 1; omega)).trans ((hg9.block B (zah B1f.out) (hne _ (by omega))).trans B1f.out)
     have d2 : (w10.setCell ⟨B + 1 + 1, 3, none⟩ (Value.slice A10 (pre.length + 1) c10)).heap[B + 1]? = _ := (Below.heap_setCell _ _ _ _ (by show B + 1 ≠ B + 1 + 1; omega)).trans ((hg9.block (B + 1) (zah B2f.out) (hne _ (by omega))).trans B2f.out)
     have d3 : (w10.setCell ⟨B + 1 + 1, 3, none⟩ (Value.slice A10 (pre.length + 1) c10)).heap[B + 1 + 1]? = some (.cells #[Value.string x.f0, Value.slice A5 x.f1.length c5, Value.slice A6 x.f2.length c6, Value.slice A10 (pre.length + 1) c10, Value.slice none 0 0] 72 (0, 0)) := zas b3 3 _ rfl
     have hbz : Below w.heap.size w (w10.setCell ⟨B + 1 + 1, 3, none⟩ (Value.slice A10 (pre.length + 1) c10)) := Below.setCell hb9 (by show w.heap.size ≤ B + 1 + 1; omega) _
     have hsz : N2 ≤ (w10.setCell ⟨B + 1 + 1, 3, none⟩ (Value.slice A10 (pre.length + 1) c10)).heap.size := by rw [show (w10.setCell ⟨B + 1 + 1, 3, none⟩ (Value.slice A10 (pre.length + 1) c10)).heap.size = w10.heap.size by simp [World.setCell]]; have := hg9.size; omega
     generalize (w10.setCell ⟨B + 1 + 1, 3, none⟩ (Value.slice A10 (pre.length + 1) c10)) = Wz at *
     have D1 := Aside0.mk d1
     have D2 := Aside0.mk d2
     have D3 := Aside0.mk d3
     have HBZ := Aside0.mk hbz
     have HVZ1 := Aside0.mk hvz1
     have HVZ2 := Aside0.mk hvz2
     have HVZ3 := Aside0.mk hvz3
     have HSZZ := Aside0.mk hsz
     clear d1 d2 d3 hbz hvz1 hvz2 hvz3 hsz hz0 hz1 hz2 hx3 hc3 hf3 b3 hne hv9 hb9 hg9 B1f B2f B3f HV1f HV2f HV3f HRF HBF
     go_wp2
     go_roundg gk
     case measure => omega
     case rel => exact ⟨m + 1, _, by omega, by first | rfl | (simp; done) | (have := HSM.out.2.2.1.1; simp; unfold wrap64; omega), D1, D2, D3, HBZ, HVZ1, HVZ2, ⟨by rw [HLT.out]; exact HVZ3.out⟩, HSZZ⟩
    | zero =>
     have hmm : ¬ (m : Int) < (x.f3.length : Int) := by omega
     have e : x.f3.take m = x.f3 := List.take_of_length_le (by omega)
     rw [e] at HV3
     obtain ⟨A7, c7, e7⟩ := Kd.R_slice HV3.out
     subst e7
     have hx3 : wr.cell? ⟨B, 3, none⟩ = some (Value.slice P3 x.f3.length p3) := (zad B1.out 3).trans rfl
     have hx4 : wr.cell? ⟨B, 4, none⟩ = some (Value.slice P4 x.f4.length p4) := (zad B1.out 4).trans rfl
     have HX4 := Aside0.mk hx4
     have HW := Aside0.mk (Below.refl wr.heap.size wr)
     have HR4 := Aside0.mk (Kd.C_below HC4.out HB.out)
     have HLEN4 := Aside0.mk HSM.out.2.2.2
     obtain ⟨Wy, hWy⟩ : ∃ W : World, W = wr := ⟨_, rfl⟩
     clear e hx4
     go_upto_region 14 with (first
      | ((with_reducible refine zaK (N := 57) rfl ?_); refine Kd.R_lit (Kd.int .i64) _ 3 ?hg (N := 57) ?hd (xs := ([] : List (Int))) (inner := []) (ok := fun _ => True) (okp := fun _ => True) ?hr ?hp (fun _ hk => hk) trivial (Below.refl _ _) (Nat.le_refl _) (by simp) ?_; (case hd => rfl); (case hg => rfl); (case hr => first | (go_simp; done) | (go_simp; rfl)); (case hp => exact (Reps.none _ _)); intro v5 w6 ho7 hb hg_ hnew_; clear hg_ hnew_; have HO5 := Aside0.mk (Kd.R_lower ho7 (zal HW.out)); have hx4 := (hb.cell (World.block_lt_of_cell? wr _ HX4.out)).trans HX4.out; have n2_ := Aside0.mk (below_step HW.out hb); clear HW; have HW := n2_; clear n2_ hb ho7)
      | ((with_reducible refine zam (b := .append) (xs := #[.tmp 57, .tmp 59]) rfl ?_); at_builtin; refine Kd.R_append_rows (Kd.int .i64) (w0 := wr) wr.heap.size rfl (.tmp 57) (.tmp 59) 70 3 (.int .i64 0) 8 rfl Tryz.underlying70 zeY rfl (by decide) (by omega) v5 [] x.f4 _ _ _ (fun _ => True) (fun _ => False) rfl rfl ?aO ?aR (fun _ _ h => h) (fun _ h => h.elim) ?aF ?aB ?aS ?aL ?_; (case aR => exact Kd.C_below HR4.out HW.out); (case aB => exact HW.out); (case aF => exact (fun _ _ => trivial)); (case aO => exact HO5.out); (case aS => exact zal HW.out); (case aL => have := HLEN4.out; simp; omega); intro v7 w8 ho hb hg hat; rw [List.nil_append] at ho; obtain ⟨A8, c8, e8⟩ := Kd.R_slice ho; subst e8; have HO7 := Aside0.mk ho; have HW8 := Aside0.mk hb; have b3 := (hb.block _ (zah B3.out)).trans B3.out; have hc3 : w8.cell? ⟨B + 1 + 1, 4, none⟩ = some (Value.slice none 0 0) := (zad b3 4).trans rfl; have hf3 := zaf b3 4; clear ho hb hg hat))
     obtain ⟨Wz, hWz⟩ : ∃ W, W = w8.setCell ⟨B + 1 + 1, 4, none⟩ (Value.slice A8 x.f4.length c8) := ⟨_, rfl⟩
     have hlt5 : B + 1 + 1 < wr.heap.size := zah B3.out
     have bz3 : Wz.heap[B + 1 + 1]? = some (.cells #[Value.string x.f0, Value.slice A5 x.f1.length c5, Value.slice A6 x.f2.length c6, Value.slice A7 x.f3.length c7, Value.slice A8 x.f4.length c8] 72 (0, 0)) := by rw [hWz]; exact zas b3 4 _ rfl
     have bz2 : Wz.heap[B + 1]? = some (.cells #[Value.string ⟨#[]⟩, Value.slice none 0 0, Value.slice none 0 0, Value.slice none 0 0, Value.slice none 0 0] 72 (0, 0)) := by rw [hWz, Below.heap_setCell _ _ _ _ (by show B + 1 ≠ B + 1 + 1; omega)]; exact (HW8.out.block _ (zah B2.out)).trans B2.out
     have hbz : Below w.heap.size w Wz := by rw [hWz]; exact zag (below_step HB.out HW8.out) (by omega)
     have hz1 : Kd.R k78 83 Wz w.heap.size (fun k => B + 1 + 1 < k ∧ k < wr.heap.size) (Value.slice A5 x.f1.length c5) x.f1 := by rw [hWz]; exact Kd.R_far (Kd.R_below (Kd.R_mono (Kd.R_bound HV1.out) (fun k hk => ⟨hk.1.1, hk.2.2.1⟩)) HW8.out) (fun k hk => Nat.ne_of_gt hk.1) _
     have hz2 : Kd.R (Kd.slice 3 (Kd.int .i64)) 70 Wz w.heap.size (fun k => B + 1 + 1 < k ∧ k < wr.heap.size) (Value.slice A6 x.f2.length c6) x.f2 := by rw [hWz]; exact Kd.R_far (Kd.R_below (Kd.R_mono (Kd.R_bound HV2.out) (fun k hk => ⟨Nat.lt_of_lt_of_le hlt4 hk.1.1, hk.2.2.1⟩)) HW8.out) (fun k hk => Nat.ne_of_gt hk.1) _
     have hz3 : Kd.R k75 75 Wz w.heap.size (fun k => B + 1 + 1 < k ∧ k < wr.heap.size) (Value.slice A7 x.f3.length c7) x.f3 := by rw [hWz]; exact Kd.R_far (Kd.R_below (Kd.R_mono (Kd.R_bound HV3.out) (fun k hk => ⟨Nat.lt_of_lt_of_le hlt4 (Nat.le_trans HSZ.out hk.1), hk.2.2.1⟩)) HW8.out) (fun k hk => Nat.ne_of_gt hk.1) _
     have hz4 : Kd.R (Kd.int .i64) 3 Wz w.heap.size (fun k => wr.heap.size ≤ k) (Value.slice A8 x.f4.length c8) x.f4 := by rw [hWz]; exact Kd.R_lower (Kd.R_far (Kd.R_mono (Kd.R_bound HO7.out) (fun k hk => hk.2.1)) (fun k hk => Nat.ne_of_gt (Nat.lt_of_lt_of_le hlt5 hk)) _) (by omega)
     rw [← hWz]
     clear hWz b3 hc3 hf3 HO7 HW8 HW HO5 HR4 HX4 HLEN4 hx3 B1 B2 B3 HB HV1 HV2 HV3 HSZ2
     have y0 : Wz.cell? ⟨B + 1 + 1, 0, none⟩ = some (Value.string x.f0) := (zad bz3 0).trans rfl
     have y1 : Wz.cell? ⟨B + 1 + 1, 1, none⟩ = some (Value.slice A5 x.f1.length c5) := (zad bz3 1).trans rfl
     have y2 : Wz.cell? ⟨B + 1 + 1, 2, none⟩ = some (Value.slice A6 x.f2.length c6) := (zad bz3 2).trans rfl
     have y3 : Wz.cell? ⟨B + 1 + 1, 3, none⟩ = some (Value.slice A7 x.f3.length c7) := (zad bz3 3).trans rfl
     have y4 : Wz.cell? ⟨B + 1 + 1, 4, none⟩ = some (Value.slice A8 x.f4.length c8) := (zad bz3 4).trans rfl
     have HB2 := Aside0.mk bz2
     have HBZ := Aside0.mk hbz
     have HZ1 := Aside0.mk hz1
     have HZ2 := Aside0.mk hz2
     have HZ3 := Aside0.mk hz3
     have HZ4 := Aside0.mk hz4
     have hrun := zaG (P := Tryz.prog) 72 (.agg #[Value.string x.f0, Value.slice A5 x.f1.length c5, Value.slice A6 x.f2.length c6, Value.slice A7 x.f3.length c7, Value.slice A8 x.f4.length c8]) (o := 0) [Value.string x.f0, Value.slice A5 x.f1.length c5, Value.slice A6 x.f2.length c6, Value.slice A7 x.f3.length c7, Value.slice A8 x.f4.length c8] bz2 rfl (by kernel_rfl) (by show 0 + 5 ≤ 5; omega) (by simp [Value.oneCell'])
     clear bz3 hbz hz1 hz2 hz3 hz4
     have HRUN := Aside0.mk hrun
     clear hrun bz2
     go_wp2_with ((with_reducible refine zll (.store 72 (.tmp 2) (.tmp 62)) rfl ?_); refine zcs rfl 72 (.tmp 2) (.tmp 62) rfl rfl rfl rfl HRUN.out ?_)
     obtain ⟨cur, hq1, hq2, hq3⟩ := zca [Value.string x.f0, Value.slice A5 x.f1.length c5, Value.slice A6 x.f2.length c6, Value.slice A7 x.f3.length c7, Value.slice A8 x.f4.length c8] 0 Wz _ HB2.out (by show 0 + 5 ≤ 5; omega)
     have hcur : cur = #[Value.string x.f0, Value.slice A5 x.f1.length c5, Value.slice A6 x.f2.length c6, Value.slice A7 x.f3.length c7, Value.slice A8 x.f4.length c8] := Array.ext' (by rw [hq3]; rfl)
     rw [hcur] at hq1
     have hfar : ∀ k, B + 1 + 1 < k → k < Wz.heap.size → (Wz.setCells (B + 1) 0 [Value.string x.f0, Value.slice A5 x.f1.length c5, Value.slice A6 x.f2.length c6, Value.slice A7 x.f3.length c7, Value.slice A8 x.f4.length c8]).heap[k]? = Wz.heap[k]? := fun k hk _ => zaX _ _ k (by omega)
     have hR1 := Kd.R_step HZ1.out (fun k hk h2 => hfar k hk.1 h2)
     have hR2 := Kd.R_step HZ2.out (fun k hk h2 => hfar k hk.1 h2)
     have hR3 := Kd.R_step HZ3.out (fun k hk h2 => hfar k hk.1 h2)
     have hR4 := Kd.R_step HZ4.out (fun k hk h2 => hfar k (Nat.lt_of_lt_of_le hlt5 hk) h2)
     have hbq : Below w.heap.size w (Wz.setCells (B + 1) 0 [Value.string x.f0, Value.slice A5 x.f1.length c5, Value.slice A6 x.f2.length c6, Value.slice A7 x.f3.length c7, Value.slice A8 x.f4.length c8]) := Go.below_setCells (by omega) _ _ _ HBZ.out
     generalize (Wz.setCells (B + 1) 0 [Value.string x.f0, Value.slice A5 x.f1.length c5, Value.slice A6 x.f2.length c6, Value.slice A7 x.f3.length c7, Value.slice A8 x.f4.length c8]) = Wq at *
     have q0 : Wq.cell? ⟨B + 1, 0, none⟩ = some (Value.string x.f0) := (zad hq1 0).trans rfl
     have q1 : Wq.cell? ⟨B + 1, 1, none⟩ = some (Value.slice A5 x.f1.length c5) := (zad hq1 1).trans rfl
     have q2 : Wq.cell? ⟨B + 1, 2, none⟩ = some (Value.slice A6 x.f2.length c6) := (zad hq1 2).trans rfl
     have q3 : Wq.cell? ⟨B + 1, 3, none⟩ = some (Value.slice A7 x.f3.length c7) := (zad hq1 3).trans rfl
     have q4 : Wq.cell? ⟨B + 1, 4, none⟩ = some (Value.slice A8 x.f4.length c8) := (zad hq1 4).trans rfl
     have hM : MA Wq w.heap.size (fun _ => True) x [Value.string x.f0, Value.slice A5 x.f1.length c5, Value.slice A6 x.f2.length c6, Value.slice A7 x.f3.length c7, Value.slice A8 x.f4.length c8] := ⟨fun k => wr.heap.size ≤ k, _, _, _, _, rfl, Kd.R_mono hR1 fun k hk => ⟨trivial, Nat.not_le_of_lt hk.2⟩, Kd.R_mono hR2 fun k hk => ⟨trivial, Nat.not_le_of_lt hk.2⟩, Kd.R_mono hR3 fun k hk => ⟨trivial, Nat.not_le_of_lt hk.2⟩, Kd.R_mono hR4 fun k hk => ⟨trivial, hk⟩⟩
     exact bodyPost_ret (v := .agg #[Value.string x.f0, Value.slice A5 x.f1.length c5, Value.slice A6 x.f2.length c6, Value.slice A7 x.f3.length c7, Value.slice A8 x.f4.length c8]) (by simp [results, Tryz.results32, go_sem, q0, q1, q2, q3, q4]) rfl ⟨_, _, _, _, rfl, hBw ▸ hM, hBw ▸ hbq⟩
end Go.Proofs.YthgfdnffnbclpaaGreatDoor.PAll
