import Derived.Test.YthgfdnffnbclpaaGreatDoorSQG04
import Derived.Deep.RegionHeld3
import Derived.Test.YthgfdnffnbclpaaGreatDoorSQG03
import Derived.RangeFuncNested
import Derived.RangeFuncBound
import Derived.RangeFuncCalls
import Derived.RangeFuncLeaves
import Derived.RangeFuncFrom
import Derived.RangeFuncBox
import Derived.Shelf.Abstract
import Derived.Shelf.RegionOpen
import Derived.OwnWalkIn
import Derived.TacticsInMore
import Derived.LoopNIn
import Derived.LoopIn
set_option linter.unusedVariables false
set_option linter.unusedSimpArgs false
namespace Go.Proofs.YthgfdnffnbclpaaGreatDoor.PAll
open Go.RowKit Go.Proofs.YthgfdnffnbclpaaGreatDoorW.PrintWords Go.Proofs.YthgfdnffnbclpaaGreatDoorW.PrintLast Go.Proofs.YthgfdnffnbclpaaGreatDoorW.PrintMore
theorem cell_al {W : World} {a : Addr} {v : Value} (o : Obj) (h : W.cell? a = some v) : (W.alloc o).cell? a = some v :=
 (((Below.refl W.heap.size W).alloc (Nat.le_refl _) o).cell (World.block_lt_of_cell? W a h)).trans h
def knownP (key : List Int) : List (List S64) → List (List S64) → Option (List (List S64))
 | [], S => some S
 | row :: r, S => (pickP row 0 key tup0).bind fun x => knownP key r (x.1 :: S)
def allKnownP (cols : List Int) (S : List (List S64)) : List (List S64) → Option Bool
 | [] => some true
 | row :: r => (pickP row 0 cols tup0).bind fun x => if (x.2 && !memP x.1 S) = true then some false else allKnownP cols S r
def refP (s : List S49) (d : List (List (List S64))) (n : Int) (r : S75) : Option Bool :=
 if 0 ≤ r.f1 ∧ r.f1 < (s.length : Int) ∧ r.f1 < (d.length : Int) ∧ 0 ≤ r.f2 ∧ r.f2 < ((rd_T49 s r.f1).f2.length : Int) then
  (knownP (rd_L6 (rd_T49 s r.f1).f2 r.f2) (rd_L13 d r.f1) []).bind fun S => allKnownP r.f0 S (rd_L13 d n)
 else none
def refsP (s : List S49) (d : List (List (List S64))) (n : Int) : List S75 → Option Bool
 | [] => some true
 | r :: q => (refP s d n r).bind fun b => if b = true then refsP s d n q else some false
set_option maxHeartbeats 4000000 in
set_option maxRecDepth 100000 in
theorem refsHold_walk (A : Option Addr) (c : Nat) (s : List S49) (A2 : Option Addr) (c2 : Nat) (d : List (List (List S64))) (n : Int) (r : Bool) (w : World)
    (hS : Kd.C k49 w A s.length s) (hsc : s.length ≤ c) (hD : Kd.C (Kd.slice 89 (Kd.slice 87 k64)) w A2 d.length d) (hdc : d.length ≤ c2) (hwf : ∀ rows ∈ d, ∀ row ∈ rows, ∀ x ∈ row, wfV x)
    (hn0 : 0 ≤ n) (hn1 : n < (s.length : Int)) (hn2 : n < (d.length : Int)) (h : refsP s d n (rd_T49 s n).f3 = some r) :
    Calls Tryz.prog 73 #[.slice A s.length c, .slice A2 d.length c2, .int .i64 n] w fun e w' => e = .returned (.bool r) ∧ Below w.heap.size w w' := by
  have hmm := @run_makeMap Tryz.prog
  have HS := Aside0.mk hS
  have HD := Aside0.mk hD
  have HWF := Aside0.mk hwf
  have HH := Aside0.mk h
  obtain ⟨ad, A1', c1', A2', c2', A3, c3, A4', c4', hA, hx0, hx1, hx2, hx3, hx4, _, _, _, _, hl3, hC3, _, _⟩ := at_T49 hS n hn0 hn1
  cases hA
  have HC3 := Aside0.mk hC3
  have HB0 := Aside0.mk (Below.refl w.heap.size w)
  clear hS hD hwf h hC3 hx0 hx1 hx2 hx4
  generalize (rd_T49 s n).f3 = refs at *
  go_enter Tryz.func73, Tryz.ntmps73
  go_wp2
  go_loopg [24] refs.length (fun gk v24 wx => ∃ (i : Nat), i + gk = refs.length ∧ v24 = .int .i64 i ∧ Aside0 (Below w.heap.size w wx) ∧ Aside0 (refsP s d n (refs.drop i) = some r))
  case atStart => exact ⟨0, by omega, rfl, HB0, HH⟩
  case round =>
    clear HB0 HH hx3
    obtain ⟨i, hi, rfl, HW, HP⟩ := hrel
    cases gk with
    | zero =>
      have e : refs.drop i = [] := List.drop_eq_nil_of_le (by omega)
      have hp := HP.out
      rw [e] at hp
      simp only [refsP, Option.some.injEq] at hp
      subst hp
      have hii : ¬ (i : Int) < (refs.length : Int) := by omega
      go_wp2
      go_ret
      exact ⟨by first | rfl | (simp; done), HW.out⟩
    | succ g1 =>
      have hlt : i < refs.length := by omega
      have hii : (i : Int) < (refs.length : Int) := by omega
      have hi0 : (0 : Int) ≤ (i : Int) := by omega
      have hdr : refs.drop i = refs[i] :: refs.drop (i + 1) := List.drop_eq_getElem_cons hlt
      have hrd : rd_T75 refs (i : Int) = refs[i] := by unfold rd_T75; simp [List.getD, hlt]
      obtain ⟨ad2, Ac, cc, hA2, hy0, hy1, hy2, hcc, hCc⟩ := at_T75 HC3.out (i : Int) hi0 hii
      cases hA2
      rw [hrd] at hy0 hy1 hy2 hcc hCc
      rw [Int.toNat_natCast] at hy0 hy1 hy2
      have hz0 := (HW.out.cell (World.block_lt_of_cell? w _ hy0)).trans hy0
      have hz1 := (HW.out.cell (World.block_lt_of_cell? w _ hy1)).trans hy1
      have hz2 := (HW.out.cell (World.block_lt_of_cell? w _ hy2)).trans hy2
      have hp := HP.out
      rw [hdr, refsP, refP] at hp
      have HCC := Aside0.mk hCc
      clear hCc hy0 hy1 hy2 HP
      generalize refs[i] = rf at *
      by_cases hin : 0 ≤ rf.f1 ∧ rf.f1 < (s.length : Int) ∧ rf.f1 < (d.length : Int) ∧ 0 ≤ rf.f2 ∧ rf.f2 < ((rd_T49 s rf.f1).f2.length : Int)
      case neg => rw [if_neg hin] at hp; simp at hp
      rw [if_pos hin] at hp
      have HP := Aside0.mk hp
      clear hp
      obtain ⟨hT0, hT1, hT2, hK0, hK1⟩ := hin
      obtain ⟨adT, _, _, B2, b2, _, _, _, _, hAT, _, _, hv2, _, _, _, _, hb2, hCB2, _, _, _, _⟩ := at_T49 HS.out rf.f1 hT0 hT1
      cases hAT
      obtain ⟨adK, Ak, ck, hAK, hvk, hck, hCk⟩ := at_L6 hCB2 rf.f2 hK0 hK1
      cases hAK
      obtain ⟨adD, Ar, cr, hAD, hvd, hcr, hCr⟩ := at_L13 HD.out rf.f1 hT0 hT2
      cases hAD
      have HCK := Aside0.mk hCk
      have HCR := Aside0.mk hCr
      have HVD := Aside0.mk hvd
      have HV2 := Aside0.mk hv2
      have HVK := Aside0.mk hvk
      have hvd' := (HW.out.cell (World.block_lt_of_cell? w _ hvd)).trans hvd
      have hvd2 : ∀ o1 o2 : Obj, ((wr.alloc o1).alloc o2).cell? (adD.add rf.f1.toNat) = some (.slice Ar (rd_L13 d rf.f1).length cr) := fun o1 o2 => cell_al o2 (cell_al o1 hvd')
      clear hCB2 hCk hCr hvd hv2 hvk
      go_wp2
      obtain ⟨Br, hBr⟩ : ∃ b, b = wr.heap.size := ⟨_, rfl⟩
      obtain ⟨W2, hW2⟩ : ∃ W, W = ((wr.alloc (Obj.cells #[Value.slice Ac rf.f0.length cc, Value.int IntKind.i64 rf.f1, Value.int IntKind.i64 rf.f2] 75)).alloc (Obj.map #[] 0)) := ⟨_, rfl⟩
      have HM0 : Aside0 (SetM Tryz.prog 170 boolR W2 (Br + 1) []) := ⟨by rw [hW2, hBr]; have := SetM.made (P := Tryz.prog) (k := 170) (R := boolR) (wr.alloc (Obj.cells #[Value.slice Ac rf.f0.length cc, Value.int IntKind.i64 rf.f1, Value.int IntKind.i64 rf.f2] 75)); simpa using this⟩
      have HB0 : Aside0 (Below w.heap.size w W2) := ⟨by rw [hW2]; exact (HW.out.alloc HW.out.size _).alloc (by have := HW.out.size; simp; omega) _⟩
      have HX0 : Aside0 (W2.heap[Br]? = some (.cells #[Value.slice Ac rf.f0.length cc, Value.int IntKind.i64 rf.f1, Value.int IntKind.i64 rf.f2] 75 (0, 0))) := ⟨by rw [hW2, hBr, Go.Deep.blk_alloc_lt _ _ _ (by simp)]; exact Go.Deep.blk_alloc_new wr _⟩
      have HZ0 : Aside0 (Br + 2 ≤ W2.heap.size) := ⟨by rw [hW2, hBr]; simp⟩
      have HBR : Aside0 (w.heap.size ≤ Br) := ⟨by rw [hBr]; exact HW.out.size⟩
      rw [← hW2, ← hBr]
      clear hBr hW2 hvd2 hvd' hz0 hz1 hz2
      go_loopg [35] (rd_L13 d rf.f1).length (fun gj v35 wx => ∃ (j : Nat) (S : List (List S64)), j + gj = (rd_L13 d rf.f1).length ∧ v35 = .int .i64 j ∧ Aside0 (S.length ≤ j) ∧ Aside0 (SetM Tryz.prog 170 boolR wx (Br + 1) (S.map tupV)) ∧ Aside0 (Below w.heap.size w wx) ∧ Aside0 (Br + 2 ≤ wx.heap.size) ∧
        Aside0 (wx.heap[Br]? = some (.cells #[Value.slice Ac rf.f0.length cc, Value.int IntKind.i64 rf.f1, Value.int IntKind.i64 rf.f2] 75 (0, 0))) ∧
        Aside0 (((knownP (rd_L6 (rd_T49 s rf.f1).f2 rf.f2) ((rd_L13 d rf.f1).drop j) S).bind fun S => allKnownP rf.f0 S (rd_L13 d n)).bind (fun b => if b = true then refsP s d n (refs.drop (i + 1)) else some false) = some r))
      case atStart => exact ⟨0, [], by omega, rfl, ⟨Nat.le_refl _⟩, HM0, HB0, HZ0, HX0, HP⟩
      case round =>
        clear HM0 HB0 HZ0 HX0 HP HW
        obtain ⟨j, S, hj, rfl, HSL, HM, HW, HSZ, HX, HP⟩ := hrel
        cases gk with
        | zero =>
          have e : (rd_L13 d rf.f1).drop j = [] := List.drop_eq_nil_of_le (by omega)
          have hp := HP.out
          rw [e] at hp
          simp only [knownP, Option.bind_some] at hp
          have HPB := Aside0.mk hp
          clear hp HP
          have hjj : ¬ (j : Int) < ((rd_L13 d rf.f1).length : Int) := by omega
          obtain ⟨adN, AN, cN, hAN, hvn, hcN, hCN⟩ := at_L13 HD.out n hn0 hn2
          cases hAN
          have HCN := Aside0.mk hCN
          have hvn' := (HW.out.cell (World.block_lt_of_cell? w _ hvn)).trans hvn
          clear hCN hvn
          have hrm : (rd_L13 d n) ∈ d := by
            unfold rd_L13
            have : n.toNat < d.length := by omega
            rw [List.getD_eq_getElem?_getD, List.getElem?_eq_getElem this]
            exact List.getElem_mem this
          have HWN := Aside0.mk (HWF.out _ hrm)
          clear hrm
          generalize hrN : rd_L13 d n = rowsN at *
          go_wp2
          go_loopg [62] rowsN.length (fun gj v62 wx => ∃ (q : Nat), q + gj = rowsN.length ∧ v62 = .int .i64 q ∧ Aside0 (SetM Tryz.prog 170 boolR wx (Br + 1) (S.map tupV)) ∧ Aside0 (Below w.heap.size w wx) ∧ Aside0 (Br + 2 ≤ wx.heap.size) ∧
            Aside0 (wx.heap[Br]? = some (.cells #[Value.slice Ac rf.f0.length cc, Value.int IntKind.i64 rf.f1, Value.int IntKind.i64 rf.f2] 75 (0, 0))) ∧
            Aside0 ((allKnownP rf.f0 S (rowsN.drop q)).bind (fun b => if b = true then refsP s d n (refs.drop (i + 1)) else some false) = some r))
          case atStart => exact ⟨0, by omega, rfl, HM, HW, HSZ, HX, HPB⟩
          case round =>
            clear HM HW HSZ HX HPB hvn'
            obtain ⟨q, hq, rfl, HM, HW, HSZ, HX, HP⟩ := hrel
            cases gk with
            | zero =>
              have e : rowsN.drop q = [] := List.drop_eq_nil_of_le (by omega)
              have hp := HP.out
              rw [e] at hp
              simp only [allKnownP, Option.bind_some, if_true] at hp
              have hjj : ¬ (q : Int) < (rowsN.length : Int) := by omega
              go_wp2
              go_roundg g1
              case measure => omega
              case rel => exact ⟨i + 1, by omega, by first | rfl | (simp; done) | (have := HC3.out.2.1; simp; unfold wrap64; omega), HW, ⟨hp⟩⟩
            | succ g2 =>
              have hjlt : q < rowsN.length := by omega
              have hjj : (q : Int) < (rowsN.length : Int) := by omega
              have hj0 : (0 : Int) ≤ (q : Int) := by omega
              have hdrj : rowsN.drop q = rowsN[q] :: rowsN.drop (q + 1) := List.drop_eq_getElem_cons hjlt
              have hrdj : rd_L12 rowsN (q : Int) = rowsN[q] := by unfold rd_L12; simp [List.getD, hjlt]
              obtain ⟨adr, Aw, cw, hAw, hxr, hcw, hCw⟩ := at_L12 HCN.out (q : Int) hj0 hjj
              cases hAw
              rw [hrdj] at hxr hcw hCw
              rw [Int.toNat_natCast] at hxr
              have hr3 := (HW.out.cell (World.block_lt_of_cell? w _ hxr)).trans hxr
              have hwr := HWN.out _ (List.getElem_mem hjlt)
              have hp := HP.out
              rw [hdrj, allKnownP] at hp
              generalize rowsN[q] = row at *
              cases hpk : pickP row 0 rf.f0 tup0 with
              | none => rw [hpk] at hp; simp at hp
              | some x =>
                obtain ⟨t, full⟩ := x
                rw [hpk] at hp
                simp only [Option.bind_some] at hp
                have h8 : t.length = 8 := by rw [pickP_len _ _ _ _ _ _ hpk]; rfl
                have hwt := pickP_wf _ _ _ _ _ _ hpk hwr tup0_wf
                obtain ⟨kl, hkey⟩ := key_tup t h8 hwt
                have hkey' : keyOf Tryz.prog 170 (tupV t) = some kl := hkey
                have HPK := Aside0.mk (pick_walk Aw cw row Ac cc rf.f0 t full wr (Kd.C_below hCw HW.out) hcw (Kd.C_below HCC.out HW.out) hcc hpk)
                have hb0 : wr.cell? ⟨Br, 0, none⟩ = some (.slice Ac rf.f0.length cc) := (blk_cell HX.out 0).trans rfl
                have hz : (Tryz.prog.info? 170).map (·.size) = some (tupC t).length := by rw [tupC_len, h8]; kernel_rfl
                have hza : (Tryz.prog.info? 170).map (·.size) = some (tupC t).toArray.size := by rw [List.size_toArray]; exact hz
                have hone : (tupC t).toArray.all (·.oneCell') = true := tupC_one t
                have hth : ∀ w1 : World, (w1.alloc zObj).there w1.heap.size 0 (tupC t).toArray.size := fun w1 => (zObj_TB w1).there 0 _ (by rw [List.size_toArray, tupC_len, h8]; omega)
                have FW : ∀ w1, Below wr.heap.size wr w1 → TB (tupW w1 t) w1.heap.size t ∧ SetM Tryz.prog 170 boolR (tupW w1 t) (Br + 1) (S.map tupV) ∧ Below w.heap.size w (tupW w1 t) ∧ Br + 2 ≤ (tupW w1 t).heap.size ∧
                    (tupW w1 t).heap[Br]? = some (.cells #[Value.slice Ac rf.f0.length cc, Value.int IntKind.i64 rf.f1, Value.int IntKind.i64 rf.f2] 75 (0, 0)) := by
                  intro w1 hb1
                  have hs1 := hb1.size
                  have hs2 := HSZ.out
                  have hbw : Below w.heap.size w w1 := below_step HW.out hb1
                  refine ⟨tupW_TB w1 t h8, HM.out.kept ?_, tupW_below t hbw hbw.size, ?_, ?_⟩
                  · rw [tupW_heap w1 t _ (by omega)]
                    exact hb1.block _ (by omega)
                  · have := (tupW_TB w1 t h8).1.lt
                    omega
                  · rw [tupW_heap w1 t _ (by omega)]
                    exact (hb1.block _ (by omega)).trans HX.out
                have FL : ∀ W5, SetM Tryz.prog 170 boolR W5 (Br + 1) (S.map tupV) → (Instr.lookup 175 (.map (some (Br + 1))) (tupV t) false).run Tryz.prog W5 = .ok (.bool (memP t S)) W5 := fun W5 h5 =>
                  h5.look_bool key90 Tryz.underlying175 (zero4 _) hkey' _ (by rw [mem_tupV]; exact memP_iff t S)
                clear hkey hwt hwr hxr hpk
                cases full with
                | true =>
                  cases hm : memP t S with
                  | true =>
                    rw [hm] at hp FL
                    simp only [Bool.not_true, Bool.and_false] at hp
                    rw [if_neg (by decide)] at hp
                    have HP3 := Aside0.mk hp
                    clear hp
                    go_wp2_with (first
                      | (go_at_call 125; refine HPK.out.mono ?_; rintro e w1 ⟨rfl, hb1⟩; obtain ⟨F1, F2, F3, F4, F5⟩ := FW w1 hb1; have hth1 := hth w1)
                      | (refine wpList_store_mid rfl 170 (.tmp 16) _ rfl w1.heap.size 0 (tupC t).toArray rfl rfl hth1 hza hone ?_; change wpList _ _ _ _ _ (tupW w1 t); have F0 := FL _ F2; clear hth1 hb1; generalize tupW w1 t = W5 at *; generalize w1.heap.size = Bt at *)
                      | (refine gate_dst (N := 76) rfl ?_; refine gate_guard (by rfl) ?_; dsimp only; refine wpList_load_mid rfl 170 (.tmp 16) rfl Bt 0 rfl (tupC t) _ F1.range Tryz.underlying170 rfl hz ?_)
                      | (refine gate_dst (N := 77) rfl ?_; refine gate_guard (by rfl) ?_; dsimp only; refine wpList_look_run _ rfl _ _ _ _ rfl rfl rfl F0 ?_))
                    go_roundg g2
                    case measure => omega
                    case rel => exact ⟨q + 1, by omega, by first | rfl | (simp; done) | (have := HCN.out.2.1; simp; unfold wrap64; omega), ⟨F2⟩, ⟨F3⟩, ⟨F4⟩, ⟨F5⟩, HP3⟩
                  | false =>
                    rw [hm] at hp FL
                    simp only [Bool.not_false, Bool.and_self, if_true, Option.bind_some] at hp
                    rw [if_neg (by decide)] at hp
                    obtain rfl := Option.some.inj hp
                    go_wp2_with (first
                      | (go_at_call 125; refine HPK.out.mono ?_; rintro e w1 ⟨rfl, hb1⟩; obtain ⟨F1, F2, F3, F4, F5⟩ := FW w1 hb1; have hth1 := hth w1)
                      | (refine wpList_store_mid rfl 170 (.tmp 16) _ rfl w1.heap.size 0 (tupC t).toArray rfl rfl hth1 hza hone ?_; change wpList _ _ _ _ _ (tupW w1 t); have F0 := FL _ F2; clear hth1 hb1; generalize tupW w1 t = W5 at *; generalize w1.heap.size = Bt at *)
                      | (refine gate_dst (N := 76) rfl ?_; refine gate_guard (by rfl) ?_; dsimp only; refine wpList_load_mid rfl 170 (.tmp 16) rfl Bt 0 rfl (tupC t) _ F1.range Tryz.underlying170 rfl hz ?_)
                      | (refine gate_dst (N := 77) rfl ?_; refine gate_guard (by rfl) ?_; dsimp only; refine wpList_look_run _ rfl _ _ _ _ rfl rfl rfl F0 ?_))
                    go_ret
                    exact ⟨by first | rfl | (simp; done), F3⟩
                | false =>
                  simp only [Bool.false_and] at hp
                  rw [if_neg (by decide)] at hp
                  have HP3 := Aside0.mk hp
                  clear hp
                  go_wp2_with (first
                    | (go_at_call 125; refine HPK.out.mono ?_; rintro e w1 ⟨rfl, hb1⟩; obtain ⟨F1, F2, F3, F4, F5⟩ := FW w1 hb1; have hth1 := hth w1)
                    | (refine wpList_store_mid rfl 170 (.tmp 16) _ rfl w1.heap.size 0 (tupC t).toArray rfl rfl hth1 hza hone ?_; change wpList _ _ _ _ _ (tupW w1 t); clear hth1 hb1; generalize tupW w1 t = W5 at *; generalize w1.heap.size = Bt at *))
                  go_roundg g2
                  case measure => omega
                  case rel => exact ⟨q + 1, by omega, by first | rfl | (simp; done) | (have := HCN.out.2.1; simp; unfold wrap64; omega), ⟨F2⟩, ⟨F3⟩, ⟨F4⟩, ⟨F5⟩, HP3⟩
        | succ g2 =>
          have hjlt : j < (rd_L13 d rf.f1).length := by omega
          have hjj : (j : Int) < ((rd_L13 d rf.f1).length : Int) := by omega
          have hj0 : (0 : Int) ≤ (j : Int) := by omega
          have hdrj : (rd_L13 d rf.f1).drop j = (rd_L13 d rf.f1)[j] :: (rd_L13 d rf.f1).drop (j + 1) := List.drop_eq_getElem_cons hjlt
          have hrdj : rd_L12 (rd_L13 d rf.f1) (j : Int) = (rd_L13 d rf.f1)[j] := by unfold rd_L12; simp [List.getD, hjlt]
          have hrm : (rd_L13 d rf.f1) ∈ d := by
            unfold rd_L13
            have : rf.f1.toNat < d.length := by omega
            rw [List.getD_eq_getElem?_getD, List.getElem?_eq_getElem this]
            exact List.getElem_mem this
          obtain ⟨adr, Aw, cw, hAw, hxr, hcw, hCw⟩ := at_L12 HCR.out (j : Int) hj0 hjj
          cases hAw
          rw [hrdj] at hxr hcw hCw
          rw [Int.toNat_natCast] at hxr
          have hr3 := (HW.out.cell (World.block_lt_of_cell? w _ hxr)).trans hxr
          have hwr := HWF.out _ hrm _ (List.getElem_mem hjlt)
          have hp := HP.out
          rw [hdrj, knownP] at hp
          generalize (rd_L13 d rf.f1)[j] = row at *
          cases hpk : pickP row 0 (rd_L6 (rd_T49 s rf.f1).f2 rf.f2) tup0 with
          | none => rw [hpk] at hp; simp at hp
          | some x =>
            obtain ⟨t, full⟩ := x
            rw [hpk] at hp
            simp only [Option.bind_some] at hp
            have h8 : t.length = 8 := by rw [pickP_len _ _ _ _ _ _ hpk]; rfl
            have hwt := pickP_wf _ _ _ _ _ _ hpk hwr tup0_wf
            obtain ⟨kl, hkey⟩ := key_tup t h8 hwt
            have hkey' : keyOf Tryz.prog 170 (tupV t) = some kl := hkey
            have hb1 : wr.cell? ⟨Br, 1, none⟩ = some (.int .i64 rf.f1) := (blk_cell HX.out 1).trans rfl
            have hb2' : wr.cell? ⟨Br, 2, none⟩ = some (.int .i64 rf.f2) := (blk_cell HX.out 2).trans rfl
            have hv2 := (HW.out.cell (World.block_lt_of_cell? w _ HV2.out)).trans HV2.out
            have hvk := (HW.out.cell (World.block_lt_of_cell? w _ HVK.out)).trans HVK.out
            have HP3 := Aside0.mk hp
            clear hp hxr hwt
            have hz : (Tryz.prog.info? 170).map (·.size) = some (tupC t).length := by rw [tupC_len, h8]; kernel_rfl
            have hza : (Tryz.prog.info? 170).map (·.size) = some (tupC t).toArray.size := by rw [List.size_toArray]; exact hz
            have hone : (tupC t).toArray.all (·.oneCell') = true := tupC_one t
            have hPK : ∀ w1, Below wr.heap.size wr w1 → Calls Tryz.prog 125 #[.slice Aw row.length cw, .slice Ak (rd_L6 (rd_T49 s rf.f1).f2 rf.f2).length ck] w1 fun e w' => e = .returned (.tuple #[.agg (tupC t).toArray, .bool full]) ∧ Below w1.heap.size w1 w' := fun w1 hb =>
              pick_walk Aw cw row Ak ck _ t full w1 (Kd.C_below (Kd.C_below hCw HW.out) hb) hcw (Kd.C_below (Kd.C_below HCK.out HW.out) hb) hck hpk
            have hmk : ∀ w', Below wr.heap.size wr w' → (w'.cell? ⟨Br, 1, none⟩ = some (.int .i64 rf.f1) ∧ w'.cell? ⟨Br, 2, none⟩ = some (.int .i64 rf.f2) ∧ w'.cell? ⟨(ad.add (rf.f1.toNat * 5)).block, (ad.add (rf.f1.toNat * 5)).off + 2, none⟩ = some (.slice (some adK) (rd_T49 s rf.f1).f2.length b2) ∧ w'.cell? (adK.add rf.f2.toNat) = some (.slice Ak (rd_L6 (rd_T49 s rf.f1).f2 rf.f2).length ck) ∧ Below wr.heap.size wr w') := fun w' hb =>
              ⟨(hb.cell (World.block_lt_of_cell? wr _ hb1)).trans hb1, (hb.cell (World.block_lt_of_cell? wr _ hb2')).trans hb2', (hb.cell (World.block_lt_of_cell? wr _ hv2)).trans hv2, (hb.cell (World.block_lt_of_cell? wr _ hvk)).trans hvk, hb⟩
            have hth : ∀ w1 : World, (w1.alloc zObj).there w1.heap.size 0 (tupC t).toArray.size := fun w1 => (zObj_TB w1).there 0 _ (by rw [List.size_toArray, tupC_len, h8]; omega)
            have hthB : ∀ W w1 : World, Below (W.alloc zObj).drew.heap.size (W.alloc zObj).drew w1 → w1.there W.heap.size 0 (tupC t).toArray.size := fun W w1 hb => (TB.there (t := tup0) ⟨(zObj_TB W).1.drew.of_block (hb.block _ (by simp)), rfl⟩ 0 _ (by rw [List.size_toArray, tupC_len, h8]; omega))
            have HMK := Aside0.mk hmk
            have HPK := Aside0.mk hPK
            have FS : Aside0 (∀ W5, Below wr.heap.size wr W5 → ∃ w7, (Instr.mapUpdate 175 (.map (some (Br + 1))) (tupV t) (.bool true)).run Tryz.prog W5 = .ok () w7 ∧ SetM Tryz.prog 170 boolR w7 (Br + 1) ((t :: S).map tupV) ∧ Below w.heap.size w w7 ∧ Br + 2 ≤ w7.heap.size ∧
                w7.heap[Br]? = some (.cells #[Value.slice Ac rf.f0.length cc, Value.int IntKind.i64 rf.f1, Value.int IntKind.i64 rf.f2] 75 (0, 0))) := ⟨by
              intro W5 hb5
              have hz' := HSZ.out
              have hs5 := hb5.size
              have h6 : SetM Tryz.prog 170 boolR W5 (Br + 1) (S.map tupV) := HM.out.kept (hb5.block _ (by omega))
              have hbw : Below w.heap.size w W5 := below_step HW.out hb5
              obtain ⟨w7, hrun, hset, hturn⟩ := h6.store key90 Tryz.underlying175 (by rw [List.length_map]; have := HSL.out; have := HCR.out.2.1; show S.length < 9223372036854775807; omega) (val := .bool true) (d := .lit (.bool true)) (ps := []) hkey' rfl
              have hg := hturn.grown
              refine ⟨w7, hrun, hset, hbw.grown hg hbw.size (fun k hk => by cases hk; have := HBR.out; omega), by have := hg.size; omega, ?_⟩
              rw [hg.block Br (by omega) (by simp)]
              exact (hb5.block _ (by omega)).trans HX.out⟩
            have hs0 := hmk wr (Below.refl _ _)
            clear hmk hPK hkey hpk
            go_wp2
            refine wp_region_held_drew (S := (fun w' => w'.cell? ⟨Br, 1, none⟩ = some (.int .i64 rf.f1) ∧ w'.cell? ⟨Br, 2, none⟩ = some (.int .i64 rf.f2) ∧ w'.cell? ⟨(ad.add (rf.f1.toNat * 5)).block, (ad.add (rf.f1.toNat * 5)).off + 2, none⟩ = some (.slice (some adK) (rd_T49 s rf.f1).f2.length b2) ∧ w'.cell? (adK.add rf.f2.toNat) = some (.slice Ak (rd_L6 (rd_T49 s rf.f1).f2 rf.f2).length ck) ∧ Below wr.heap.size wr w')) (by kernel_rfl) (HMK.out _ (below_drew1 (Below.refl _ _))) (fun hHeld => ?_)
            refine wpAnyH_take (i := 0) (oi := _) (v := ?v0) rfl (by kernel_rfl) (by kernel_rfl) (by kernel_rfl) (fun _ _ _ h => h) (Or.inl ⟨by rfl, ?hy0⟩) (by assumption) ?rest0
            case hy0 => (intro w hSw; (try dsimp only at hSw); go_simp; try with_reducible rfl)
            case rest0 =>
             (try simp only [Act.put, List.setIfInBounds_toArray, List.set_cons_zero, List.set_cons_succ])
             refine wpAnyH_take (i := 1) (oi := _) (v := ?v1) rfl (by kernel_rfl) (by kernel_rfl) (by kernel_rfl) (fun _ _ _ h => h) (Or.inl ⟨by rfl, ?hy1⟩) (by assumption) ?rest1
             case hy1 => (intro w hSw; (try dsimp only at hSw); go_simp; try with_reducible rfl)
             case rest1 =>
              (try simp only [Act.put, List.setIfInBounds_toArray, List.set_cons_zero, List.set_cons_succ])
              refine wpAnyH_take (i := 2) (oi := _) (v := ?v2) rfl (by kernel_rfl) (by kernel_rfl) (by kernel_rfl) (fun _ _ _ h => h) (Or.inl ⟨by rfl, ?hy2⟩) (by assumption) ?rest2
              case hy2 => (intro w hSw; (try dsimp only at hSw); go_simp; try with_reducible rfl)
              case rest2 =>
               (try simp only [Act.put, List.setIfInBounds_toArray, List.set_cons_zero, List.set_cons_succ])
               refine wpAnyH_take (i := 3) (oi := _) (v := ?v3) rfl (by kernel_rfl) (by kernel_rfl) (by kernel_rfl) (fun _ _ _ h => h) (Or.inl ⟨by rfl, ?hy3⟩) (by assumption) ?rest3
               case hy3 => (intro w hSw; (try dsimp only at hSw); go_simp; try with_reducible rfl)
               case rest3 =>
                (try simp only [Act.put, List.setIfInBounds_toArray, List.set_cons_zero, List.set_cons_succ])
                refine wpAnyH_take (i := 4) (oi := _) (v := ?v4) rfl (by kernel_rfl) (by kernel_rfl) (by kernel_rfl) (fun _ _ _ h => h) (Or.inl ⟨by rfl, ?hy4⟩) (by assumption) ?rest4
                case hy4 => (intro w hSw; (try dsimp only at hSw); go_simp; try with_reducible rfl)
                case rest4 =>
                 (try simp only [Act.put, List.setIfInBounds_toArray, List.set_cons_zero, List.set_cons_succ])
                 refine wpAnyH_take (i := 5) (oi := _) (v := ?v5) rfl (by kernel_rfl) (by kernel_rfl) (by kernel_rfl) (fun _ _ _ h => h) (Or.inl ⟨by rfl, ?hy5⟩) (by assumption) ?rest5
                 case hy5 => (intro w hSw; (try dsimp only at hSw); go_simp; try with_reducible rfl)
                 case rest5 =>
                  (try simp only [Act.put, List.setIfInBounds_toArray, List.set_cons_zero, List.set_cons_succ])
                  refine wpAnyH_take (i := 6) (oi := _) (v := ?v6) rfl (by kernel_rfl) (by kernel_rfl) (by kernel_rfl) (fun _ _ _ h => h) (Or.inl ⟨by rfl, ?hy6⟩) (by assumption) ?rest6
                  case hy6 => (intro w hSw; (try dsimp only at hSw); go_simp; try with_reducible rfl)
                  case rest6 =>
                   (try simp only [Act.put, List.setIfInBounds_toArray, List.set_cons_zero, List.set_cons_succ])
                   refine wpAnyH_take (i := 7) (oi := _) (v := ?v7) rfl (by kernel_rfl) (by kernel_rfl) (by kernel_rfl) (fun _ _ _ h => h) (Or.inl ⟨by rfl, ?hy7⟩) (by assumption) ?rest7
                   case hy7 => (intro w hSw; (try dsimp only at hSw); go_simp; try with_reducible rfl)
                   case rest7 =>
                    (try simp only [Act.put, List.setIfInBounds_toArray, List.set_cons_zero, List.set_cons_succ])
                    refine wpAnyH_take (i := 8) (oi := _) (v := ?v8) rfl (by kernel_rfl) (by kernel_rfl) (by kernel_rfl) (fun _ _ _ h => h) (Or.inl ⟨by rfl, ?hy8⟩) (by assumption) ?rest8
                    case hy8 => (intro w hSw; (try dsimp only at hSw); go_simp; try with_reducible rfl)
                    case rest8 =>
                     (try simp only [Act.put, List.setIfInBounds_toArray, List.set_cons_zero, List.set_cons_succ])
                     refine wpAnyH_take (i := 9) (oi := _) (v := ?v9) rfl (by kernel_rfl) (by kernel_rfl) (by kernel_rfl) (fun _ _ _ h => h) (Or.inl ⟨by rfl, ?hy9⟩) (by assumption) ?rest9
                     case hy9 => (intro w hSw; (try dsimp only at hSw); go_simp; try with_reducible rfl)
                     case rest9 =>
                      (try simp only [Act.put, List.setIfInBounds_toArray, List.set_cons_zero, List.set_cons_succ])
                      refine wpAnyH_take (i := 10) (oi := _) (v := ?v10) rfl (by kernel_rfl) (by kernel_rfl) (by kernel_rfl) (fun _ _ _ h => h) (Or.inl ⟨by rfl, ?hy10⟩) (by assumption) ?rest10
                      case hy10 => (intro w hSw; (try dsimp only at hSw); go_simp; try with_reducible rfl)
                      case rest10 =>
                       (try simp only [Act.put, List.setIfInBounds_toArray, List.set_cons_zero, List.set_cons_succ])
                       refine wpAnyH_ready (rs := [11, 15]) (by kernel_rfl) (by simp) ?_
                       refine AllReadyH.cons (i := 11) (o := _) rfl (fun K hK => ?wayA) ?more
                       case wayA =>
                        go_simp
                        refine (HPK.out _ (below_drew1 (Below.refl _ _))).mono ?_
                        rintro e w1 ⟨rfl, hb1⟩
                        have hq1 : Below wr.heap.size wr w1 := below_step (below_drew1 (Below.refl _ _)) hb1
                        go_wp2
                        refine hK.out _ _ ?hSA (fun hHeld => ?nxA)
                        case hSA => exact HMK.out _ (hq1)
                        case nxA =>
                         clear hK K
                         (try simp only [Act.put, List.setIfInBounds_toArray, List.set_cons_zero, List.set_cons_succ])
                         refine wpAnyH_take (i := 12) (oi := _) (v := ?v12a) rfl (by kernel_rfl) (by kernel_rfl) (by kernel_rfl) (fun _ _ _ h => h) (Or.inl ⟨by rfl, ?hy12a⟩) (by assumption) ?rest12a
                         case hy12a => (intro w hSw; (try dsimp only at hSw); go_simp; try with_reducible rfl)
                         case rest12a =>
                          (try simp only [Act.put, List.setIfInBounds_toArray, List.set_cons_zero, List.set_cons_succ])
                          refine wpAnyH_take (i := 13) (oi := _) (v := ?v13a) rfl (by kernel_rfl) (by kernel_rfl) (by kernel_rfl) (fun _ _ _ h => h) (Or.inl ⟨by rfl, ?hy13a⟩) (by assumption) ?rest13a
                          case hy13a => (intro w hSw; (try dsimp only at hSw); go_simp; try with_reducible rfl)
                          case rest13a =>
                           (try simp only [Act.put, List.setIfInBounds_toArray, List.set_cons_zero, List.set_cons_succ])
                           refine wpAnyH_take (i := 14) (oi := _) (v := ?v14a) rfl (by kernel_rfl) (by kernel_rfl) (by kernel_rfl) (fun _ _ _ h => h) (Or.inl ⟨by rfl, ?hy14a⟩) (by assumption) ?rest14a
                           case hy14a => (intro w hSw; (try dsimp only at hSw); go_simp; try with_reducible rfl)
                           case rest14a =>
                            (try simp only [Act.put, List.setIfInBounds_toArray, List.set_cons_zero, List.set_cons_succ])
                            refine wpAnyH_ready (rs := [15]) (by kernel_rfl) (by simp) ?_
                            refine AllReadyH.cons (i := 15) (o := _) rfl (fun K hK => ?wayAB) ?moreAB
                            case moreAB => exact AllReadyH.nil
                            case wayAB =>
                             go_simp
                             refine hK.out _ _ ?hSB (fun hHeld => ?nxB)
                             case hSB => exact HMK.out _ (below_alloc hq1 _)
                             case nxB =>
                              clear hK K
                              (try simp only [Act.put, List.setIfInBounds_toArray, List.set_cons_zero, List.set_cons_succ])
                              refine wpAnyH_ready (rs := [16]) (by kernel_rfl) (by simp) ?_
                              refine AllReadyH.cons (i := 16) (o := _) rfl (fun K hK => ?wayAC) ?moreAC
                              case moreAC => exact AllReadyH.nil
                              case wayAC =>
                               rw [if_pos (by rfl)]
                               refine wp_store_mid 170 (.tmp 12) (.tmp 52) rfl _ 0 (tupC t).toArray rfl rfl (hth w1) hza hone ?_
                               have hqT : Below wr.heap.size wr (tupW w1 t) := tupW_below t hq1 hq1.size
                               change K _ (tupW w1 t)
                               have hq2 : Below wr.heap.size wr (tupW w1 t) := hqT
                               refine hK.out _ _ ?hSC (fun hHeld => ?nxC)
                               case hSC => exact HMK.out _ (hq2)
                               case nxC =>
                                clear hK K
                                (try simp only [Act.put, List.setIfInBounds_toArray, List.set_cons_zero, List.set_cons_succ])
                                refine wpAnyH_take (i := 17) (oi := _) (v := ?v17C) rfl (by kernel_rfl) (by kernel_rfl) (by kernel_rfl) (fun _ _ _ h => h) (Or.inl ⟨by rfl, ?hy17C⟩) (by assumption) ?rest17C
                                case hy17C => (intro w hSw; (try dsimp only at hSw); go_simp; try with_reducible rfl)
                                case rest17C =>
                                 (try simp only [Act.put, List.setIfInBounds_toArray, List.set_cons_zero, List.set_cons_succ])
                                 refine wpAnyH_done (by kernel_rfl) ?_ _
                                 have F1 := Aside0.mk (tupW_TB w1 t h8)
                                 obtain ⟨w7, hrun, G2, G3, G4, G5⟩ := FS.out _ hq2
                                 generalize tupW w1 t = W5 at *
                                 go_wp2_with (first | (refine wpList_load_mid rfl 170 (.tmp 12) rfl w1.heap.size 0 rfl (tupC t) _ F1.out.range Tryz.underlying170 rfl hz ?_) | (at_mapUpdate; refine wpList_store_run _ rfl _ _ _ _ rfl rfl rfl rfl hrun ?_))
                                 go_roundg g2
                                 case measure => omega
                                 case rel => exact ⟨j + 1, t :: S, by omega, by first | rfl | (simp; done) | (have := HCR.out.2.1; simp; unfold wrap64; omega), ⟨by rw [List.length_cons]; have := HSL.out; omega⟩, ⟨G2⟩, ⟨G3⟩, ⟨G4⟩, ⟨G5⟩, HP3⟩
                       case more =>
                        refine AllReadyH.cons (i := 15) (o := _) rfl (fun K hK => ?wayB) ?moreB
                        case moreB => exact AllReadyH.nil
                        case wayB =>
                         go_simp
                         refine hK.out _ _ ?hSD (fun hHeld => ?nxD)
                         case hSD => exact HMK.out _ (below_drew1 (below_alloc (Below.refl _ _) _))
                         case nxD =>
                          clear hK K
                          (try simp only [Act.put, List.setIfInBounds_toArray, List.set_cons_zero, List.set_cons_succ])
                          refine wpAnyH_ready (rs := [11]) (by kernel_rfl) (by simp) ?_
                          refine AllReadyH.cons (i := 11) (o := _) rfl (fun K hK => ?wayBB) ?moreBB
                          case moreBB => exact AllReadyH.nil
                          case wayBB =>
                           go_simp
                           refine (HPK.out _ (below_drew1 (below_alloc (Below.refl _ _) _))).mono ?_
                           rintro e w1 ⟨rfl, hb1⟩
                           have hq1 : Below wr.heap.size wr w1 := below_step (below_drew1 (below_alloc (Below.refl _ _) _)) hb1
                           go_wp2
                           refine hK.out _ _ ?hSE (fun hHeld => ?nxE)
                           case hSE => exact HMK.out _ (hq1)
                           case nxE =>
                            clear hK K
                            (try simp only [Act.put, List.setIfInBounds_toArray, List.set_cons_zero, List.set_cons_succ])
                            refine wpAnyH_take (i := 12) (oi := _) (v := ?v12b) rfl (by kernel_rfl) (by kernel_rfl) (by kernel_rfl) (fun _ _ _ h => h) (Or.inl ⟨by rfl, ?hy12b⟩) (by assumption) ?rest12b
                            case hy12b => (intro w hSw; (try dsimp only at hSw); go_simp; try with_reducible rfl)
                            case rest12b =>
                             (try simp only [Act.put, List.setIfInBounds_toArray, List.set_cons_zero, List.set_cons_succ])
                             refine wpAnyH_take (i := 13) (oi := _) (v := ?v13b) rfl (by kernel_rfl) (by kernel_rfl) (by kernel_rfl) (fun _ _ _ h => h) (Or.inl ⟨by rfl, ?hy13b⟩) (by assumption) ?rest13b
                             case hy13b => (intro w hSw; (try dsimp only at hSw); go_simp; try with_reducible rfl)
                             case rest13b =>
                              (try simp only [Act.put, List.setIfInBounds_toArray, List.set_cons_zero, List.set_cons_succ])
                              refine wpAnyH_take (i := 14) (oi := _) (v := ?v14b) rfl (by kernel_rfl) (by kernel_rfl) (by kernel_rfl) (fun _ _ _ h => h) (Or.inl ⟨by rfl, ?hy14b⟩) (by assumption) ?rest14b
                              case hy14b => (intro w hSw; (try dsimp only at hSw); go_simp; try with_reducible rfl)
                              case rest14b =>
                               (try simp only [Act.put, List.setIfInBounds_toArray, List.set_cons_zero, List.set_cons_succ])
                               refine wpAnyH_ready (rs := [16]) (by kernel_rfl) (by simp) ?_
                               refine AllReadyH.cons (i := 16) (o := _) rfl (fun K hK => ?wayBC) ?moreBC
                               case moreBC => exact AllReadyH.nil
                               case wayBC =>
                                rw [if_pos (by rfl)]
                                refine wp_store_mid 170 (.tmp 12) (.tmp 52) rfl _ 0 (tupC t).toArray rfl rfl (hthB wr w1 hb1) hza hone ?_
                                have hqT : Below wr.heap.size wr (w1.setCells wr.heap.size 0 (tupC t)) := Go.below_setCells (Nat.le_refl _) _ _ _ hq1
                                have hTB : TB (w1.setCells wr.heap.size 0 (tupC t)) wr.heap.size t := TB.put (t := tup0) ⟨(zObj_TB wr).1.drew.of_block (hb1.block _ (by simp)), rfl⟩ h8
                                change K _ (w1.setCells wr.heap.size 0 (tupC t))
                                have hq2 : Below wr.heap.size wr (w1.setCells wr.heap.size 0 (tupC t)) := hqT
                                refine hK.out _ _ ?hSF (fun hHeld => ?nxF)
                                case hSF => exact HMK.out _ (hq2)
                                case nxF =>
                                 clear hK K
                                 (try simp only [Act.put, List.setIfInBounds_toArray, List.set_cons_zero, List.set_cons_succ])
                                 refine wpAnyH_take (i := 17) (oi := _) (v := ?v17F) rfl (by kernel_rfl) (by kernel_rfl) (by kernel_rfl) (fun _ _ _ h => h) (Or.inl ⟨by rfl, ?hy17F⟩) (by assumption) ?rest17F
                                 case hy17F => (intro w hSw; (try dsimp only at hSw); go_simp; try with_reducible rfl)
                                 case rest17F =>
                                  (try simp only [Act.put, List.setIfInBounds_toArray, List.set_cons_zero, List.set_cons_succ])
                                  refine wpAnyH_done (by kernel_rfl) ?_ _
                                  have F1 := Aside0.mk hTB
                                  obtain ⟨w7, hrun, G2, G3, G4, G5⟩ := FS.out _ hq2
                                  generalize w1.setCells wr.heap.size 0 (tupC t) = W5 at *
                                  go_wp2_with (first | (refine wpList_load_mid rfl 170 (.tmp 12) rfl wr.heap.size 0 rfl (tupC t) _ F1.out.range Tryz.underlying170 rfl hz ?_) | (at_mapUpdate; refine wpList_store_run _ rfl _ _ _ _ rfl rfl rfl rfl hrun ?_))
                                  go_roundg g2
                                  case measure => omega
                                  case rel => exact ⟨j + 1, t :: S, by omega, by first | rfl | (simp; done) | (have := HCR.out.2.1; simp; unfold wrap64; omega), ⟨by rw [List.length_cons]; have := HSL.out; omega⟩, ⟨G2⟩, ⟨G3⟩, ⟨G4⟩, ⟨G5⟩, HP3⟩
def scheme_distinct_string.f (l : List ByteArray) : Option Bool := if l.all (fun s => decide (s.size ≤ 9223372036854775807)) = true then some (distP [] l) else none
theorem scheme_distinct_string.calls (A0 : Option Addr) (c0 : Nat) (l0 : List ByteArray) (r : Bool) (w : World) (hr0 : Kd.C Kd.string w A0 l0.length l0) (hc0 : l0.length ≤ c0) (h : scheme_distinct_string.f l0 = some r) :
  Calls Tryz.prog 64 #[.slice A0 l0.length c0] w fun e w' => e = .returned (.bool r) ∧ Below w.heap.size w w' := by
 unfold scheme_distinct_string.f at h
 split at h
 ·rename_i hc
  obtain rfl := Option.some.inj h
  exact distinct_walk_string A0 c0 l0 w hr0 hc0 (fun s hs => of_decide_eq_true (List.all_eq_true.1 hc s hs))
 ·cases h
def scheme_distinct_int.f (l : List Int) : Option Bool := if l.all (fun s => (Lit.int .i64 s).wf) = true then some (distP [] l) else none
theorem scheme_distinct_int.calls (A0 : Option Addr) (c0 : Nat) (l0 : List Int) (r : Bool) (w : World) (hr0 : Kd.C (Kd.int .i64) w A0 l0.length l0) (hc0 : l0.length ≤ c0) (h : scheme_distinct_int.f l0 = some r) :
  Calls Tryz.prog 116 #[.slice A0 l0.length c0] w fun e w' => e = .returned (.bool r) ∧ Below w.heap.size w w' := by
 unfold scheme_distinct_int.f at h
 split at h
 ·rename_i hc
  obtain rfl := Option.some.inj h
  exact distinct_walk_int A0 c0 l0 w hr0 hc0 (fun s hs => List.all_eq_true.1 hc s hs)
 ·cases h
attribute [local go_sem] max2_int min2_int max_two min_two max_three min_three max_four min_four
attribute [local go_sem] kwB_size
mutual
def jointerref02_IsKeyword.l0 : Nat → ByteArray → Int → Option (Bool)
 | 0, _, _ => none
 | k + 1, x0, x3 => if x3 < (x0.size : Int) then (if 0 ≤ x3 then (if (bt x0 x3) < 65 then (some false) else (if (bt x0 x3) > 90 then (some false) else (jointerref02_IsKeyword.l0 k x0 (wrap64 (x3 + 1))))) else (none)) else (jointerref02_IsKeyword.l1 k x0 0)
def jointerref02_IsKeyword.l1 : Nat → ByteArray → Int → Option (Bool)
 | 0, _, _ => none
 | k + 1, x0, x4 => if (wrap64 ((wrap64 (x4 + (x0.size : Int))) + 2)) ≤ 372 then (if 0 ≤ x4 then (if x4 ≤ (wrap64 ((wrap64 (x4 + (x0.size : Int))) + 2)) then (if 1 + x0.size ≤ 9223372036854775807 then (if ((⟨#[32]⟩ : ByteArray) ++ x0).size + 1 ≤ 9223372036854775807 then (if (kwB.extract (x4 : Int).toNat ((wrap64 ((wrap64 (x4 + (x0.size : Int))) + 2)) : Int).toNat).toList = (((⟨#[32]⟩ : ByteArray) ++ x0) ++ (⟨#[32]⟩ : ByteArray)).toList then (some true) else (jointerref02_IsKeyword.l1 k x0 (wrap64 (x4 + 1)))) else (none)) else (none)) else (none)) else (none)) else (some false)
end
def jointerref02_IsKeyword.f (k : Nat) (a0 : ByteArray) : Option (Bool) := if a0.toList = ([] : List UInt8) then (some false) else (jointerref02_IsKeyword.l0 k a0 0)
set_option maxHeartbeats 8000000 in
set_option maxRecDepth 100000 in
theorem jointerref02_IsKeyword.calls (k : Nat) (a0 : ByteArray) (r : Bool) (w : World) (h : jointerref02_IsKeyword.f k a0 = some r) :
  Calls Tryz.prog 98 #[.string a0] w fun e w' => e = .returned (.bool r) ∧ Drawn0 w w' := by
 have H : (if a0.toList = ([] : List UInt8) then (some false) else (jointerref02_IsKeyword.l0 k a0 0)) = some r := h
 clear h
 by_cases c2 : a0.toList = ([] : List UInt8)
 ·rw [if_pos c2] at H
  have c2b0 : (a0.toList == ([] : List UInt8)) = true := beq_iff_eq.mpr c2
  have c2b1 : (a0.toList != ([] : List UInt8)) = false := bne_eq_false_iff_eq.mpr c2
  clear c2
  obtain rfl := Option.some.inj H
  go_enter Tryz.func98, Tryz.ntmps98
  simp only [kwB_eq]
  go_wp2
  go_ret
  exact ⟨by first | rfl | (simp; done) | (simp [*]; done), by repeat (first | exact Drawn0.refl _ | apply Drawn0.step)⟩
 ·rw [if_neg c2] at H
  have c2b0 : (a0.toList == ([] : List UInt8)) = false := beq_eq_false_iff_ne.mpr c2
  have c2b1 : (a0.toList != ([] : List UInt8)) = true := bne_iff_ne.mpr c2
  have H' := Aside0.mk H
  clear H
  go_enter Tryz.func98, Tryz.ntmps98
  simp only [kwB_eq]
  go_wp2
  go_loopg [3] k (fun kq v3 w' => ∃ (x3_1 : Int), v3 = .int .i64 x3_1 ∧ Aside0 (jointerref02_IsKeyword.l0 kq a0 x3_1 = some r) ∧ Aside0 (kq ≤ k) ∧ Drawn0 w w')
  case atStart => exact ⟨(0), (by first | rfl | (simp; done) | (simp [*]; done)), H', ⟨Nat.le_refl _⟩, by repeat (first | exact Drawn0.refl _ | apply Drawn0.step)⟩
  case round =>
   clear H'
   try clear c1
   try clear c2
   try clear c2b0
   try clear c2b1
   try clear p2
   obtain ⟨x3_1, rfl, HA, HK1, ⟨m1, rfl⟩⟩ := hrel
   cases gk with
   | zero => exact absurd HA.out (by simp [jointerref02_IsKeyword.l0])
   | succ k1 =>
    have H := HA.out
    clear HA
    simp only [jointerref02_IsKeyword.l0] at H
    by_cases c3 : x3_1 < (a0.size : Int)
    ·rw [if_pos c3] at H
     have c3b0 : decide (x3_1 < (a0.size : Int)) = true := decide_eq_true c3
     clear c3
     by_cases c4 : 0 ≤ x3_1
     ·rw [if_pos c4] at H
      have c4b0 : decide (0 ≤ x3_1) = true := decide_eq_true c4
      clear c4
      by_cases c6 : (bt a0 x3_1) < 65
      ·rw [if_pos c6] at H
       have c6b0 : decide ((bt a0 x3_1) < 65) = true := decide_eq_true c6
       clear c6
       obtain rfl := Option.some.inj H
       have p5 : 0 ≤ (x3_1 : Int) := of_decide_eq_true (by first | (with_reducible assumption) | assumption)
       have q5 : x3_1 < (a0.size : Int) := of_decide_eq_true (by first | (with_reducible assumption) | assumption)
       have hx5 := bt_at a0 x3_1
       replace p5 := eq_true p5
       replace q5 := eq_true q5
       go_wp2
       go_ret
       exact ⟨by first | rfl | (simp; done) | (simp [*]; done), by repeat (first | exact Drawn0.refl _ | apply Drawn0.step)⟩
      ·rw [if_neg c6] at H
       have c6b0 : decide ((bt a0 x3_1) < 65) = false := decide_eq_false c6
       clear c6
       by_cases c8 : (bt a0 x3_1) > 90
       ·rw [if_pos c8] at H
        have c8b0 : decide (90 < (bt a0 x3_1)) = true := decide_eq_true c8
        clear c8
        obtain rfl := Option.some.inj H
        have p5 : 0 ≤ (x3_1 : Int) := of_decide_eq_true (by first | (with_reducible assumption) | assumption)
        have q5 : x3_1 < (a0.size : Int) := of_decide_eq_true (by first | (with_reducible assumption) | assumption)
        have hx5 := bt_at a0 x3_1
        replace p5 := eq_true p5
        replace q5 := eq_true q5
        have p7 : 0 ≤ (x3_1 : Int) := of_decide_eq_true (by first | (with_reducible assumption) | assumption)
        have q7 : x3_1 < (a0.size : Int) := of_decide_eq_true (by first | (with_reducible assumption) | assumption)
        have hx7 := bt_at a0 x3_1
        replace p7 := eq_true p7
        replace q7 := eq_true q7
        go_wp2
        go_ret
        exact ⟨by first | rfl | (simp; done) | (simp [*]; done), by repeat (first | exact Drawn0.refl _ | apply Drawn0.step)⟩
       ·rw [if_neg c8] at H
        have c8b0 : decide (90 < (bt a0 x3_1)) = false := decide_eq_false c8
        clear c8
        have H' := Aside0.mk H
        clear H
        have p5 : 0 ≤ (x3_1 : Int) := of_decide_eq_true (by first | (with_reducible assumption) | assumption)
        have q5 : x3_1 < (a0.size : Int) := of_decide_eq_true (by first | (with_reducible assumption) | assumption)
        have hx5 := bt_at a0 x3_1
        replace p5 := eq_true p5
        replace q5 := eq_true q5
        have p7 : 0 ≤ (x3_1 : Int) := of_decide_eq_true (by first | (with_reducible assumption) | assumption)
        have q7 : x3_1 < (a0.size : Int) := of_decide_eq_true (by first | (with_reducible assumption) | assumption)
        have hx7 := bt_at a0 x3_1
        replace p7 := eq_true p7
        replace q7 := eq_true q7
        go_wp2
        go_roundg k1
        case measure => have := HK1.out; omega
        case rel => exact ⟨(wrap64 (x3_1 + 1)), (by first | rfl | (simp; done) | (simp [*]; done)), H', ⟨by have := HK1.out; omega⟩, by repeat (first | exact Drawn0.refl _ | apply Drawn0.step)⟩
     ·rw [if_neg c4] at H
      exact absurd H (by simp)
    ·rw [if_neg c3] at H
     have c3b0 : decide (x3_1 < (a0.size : Int)) = false := decide_eq_false c3
     clear c3
     have H' := Aside0.mk H
     clear H
     go_wp2
     go_loopg [4] k1 (fun kq v4 w' => ∃ (x4_2 : Int), v4 = .int .i64 x4_2 ∧ Aside0 (jointerref02_IsKeyword.l1 kq a0 x4_2 = some r) ∧ Aside0 (kq ≤ k1) ∧ Drawn0 w w')
     case atStart => exact ⟨(0), (by first | rfl | (simp; done) | (simp [*]; done)), H', ⟨Nat.le_refl _⟩, by repeat (first | exact Drawn0.refl _ | apply Drawn0.step)⟩
     case round =>
      clear H'
      try clear c1
      try clear c2
      try clear c2b0
      try clear c2b1
      try clear p2
      try clear c3
      try clear c3b0
      try clear c4
      try clear c4b0
      try clear p5
      try clear q5
      try clear hx5
      try clear c6
      try clear c6b0
      try clear p6
      try clear p7
      try clear q7
      try clear hx7
      try clear c8
      try clear c8b0
      try clear p2
      try clear p5
      try clear p7
      try clear q5
      try clear q7
      obtain ⟨x4_2, rfl, HA, HK2, ⟨m2, rfl⟩⟩ := hrel
      cases gk with
      | zero => exact absurd HA.out (by simp [jointerref02_IsKeyword.l1])
      | succ k2 =>
       have H := HA.out
       clear HA
       simp only [jointerref02_IsKeyword.l1] at H
       by_cases c9 : (wrap64 ((wrap64 (x4_2 + (a0.size : Int))) + 2)) ≤ 372
       ·rw [if_pos c9] at H
        have c9b0 : decide ((wrap64 ((wrap64 (x4_2 + (a0.size : Int))) + 2)) ≤ 372) = true := decide_eq_true c9
        clear c9
        by_cases c10 : 0 ≤ x4_2
        ·rw [if_pos c10] at H
         have c10b0 := eq_true c10
         have c10b1 : decide (0 ≤ x4_2) = true := decide_eq_true c10
         clear c10
         by_cases c11 : x4_2 ≤ (wrap64 ((wrap64 (x4_2 + (a0.size : Int))) + 2))
         ·rw [if_pos c11] at H
          have c11b0 := eq_true c11
          have c11b1 : decide (x4_2 ≤ (wrap64 ((wrap64 (x4_2 + (a0.size : Int))) + 2))) = true := decide_eq_true c11
          have c12b0 := eq_true (of_decide_eq_true (by first | (with_reducible assumption) | assumption) : (wrap64 ((wrap64 (x4_2 + (a0.size : Int))) + 2)) ≤ 372)
          by_cases c13 : 1 + a0.size ≤ 9223372036854775807
          ·rw [if_pos c13] at H
           have c13b0 := eq_true c13
           have c13b1 : decide (1 + a0.size ≤ 9223372036854775807) = true := decide_eq_true c13
           try have c13b2 : (9223372036854775807 < 1 + a0.size) = False := eq_false (Nat.not_lt.2 c13)
           by_cases c14 : ((⟨#[32]⟩ : ByteArray) ++ a0).size + 1 ≤ 9223372036854775807
           ·rw [if_pos c14] at H
            have c14b0 := eq_true c14
            have c14x : 1 + a0.size + 1 ≤ 9223372036854775807 := by have h0 := c14; rw [ByteArray.size_append] at h0; exact h0
            have c14b8 : decide (1 + a0.size + 1 ≤ 9223372036854775807) = true := decide_eq_true c14x
            have c14b9 : (9223372036854775807 < 1 + a0.size + 1) = False := eq_false (Nat.not_lt.2 c14x)
            have c14b7 := eq_true c14x
            have c14b1 : decide (((⟨#[32]⟩ : ByteArray) ++ a0).size + 1 ≤ 9223372036854775807) = true := decide_eq_true c14
            try have c14b2 : (9223372036854775807 < ((⟨#[32]⟩ : ByteArray) ++ a0).size + 1) = False := eq_false (Nat.not_lt.2 c14)
            by_cases c15 : (kwB.extract (x4_2 : Int).toNat ((wrap64 ((wrap64 (x4_2 + (a0.size : Int))) + 2)) : Int).toNat).toList = (((⟨#[32]⟩ : ByteArray) ++ a0) ++ (⟨#[32]⟩ : ByteArray)).toList
            ·rw [if_pos c15] at H
             have c15b0 : ((kwB.extract (x4_2 : Int).toNat ((wrap64 ((wrap64 (x4_2 + (a0.size : Int))) + 2)) : Int).toNat).toList == (((⟨#[32]⟩ : ByteArray) ++ a0) ++ (⟨#[32]⟩ : ByteArray)).toList) = true := beq_iff_eq.mpr c15
             have c15b1 : ((kwB.extract (x4_2 : Int).toNat ((wrap64 ((wrap64 (x4_2 + (a0.size : Int))) + 2)) : Int).toNat).toList != (((⟨#[32]⟩ : ByteArray) ++ a0) ++ (⟨#[32]⟩ : ByteArray)).toList) = false := bne_eq_false_iff_eq.mpr c15
             clear c15
             obtain rfl := Option.some.inj H
             go_wp2
             go_ret
             exact ⟨by first | rfl | (simp; done) | (simp [*]; done), by repeat (first | exact Drawn0.refl _ | apply Drawn0.step)⟩
            ·rw [if_neg c15] at H
             have c15b0 : ((kwB.extract (x4_2 : Int).toNat ((wrap64 ((wrap64 (x4_2 + (a0.size : Int))) + 2)) : Int).toNat).toList == (((⟨#[32]⟩ : ByteArray) ++ a0) ++ (⟨#[32]⟩ : ByteArray)).toList) = false := beq_eq_false_iff_ne.mpr c15
             have c15b1 : ((kwB.extract (x4_2 : Int).toNat ((wrap64 ((wrap64 (x4_2 + (a0.size : Int))) + 2)) : Int).toNat).toList != (((⟨#[32]⟩ : ByteArray) ++ a0) ++ (⟨#[32]⟩ : ByteArray)).toList) = true := bne_iff_ne.mpr c15
             have H' := Aside0.mk H
             clear H
             go_wp2
             go_roundg k2
             case measure => have := HK1.out; have := HK2.out; omega
             case rel => exact ⟨(wrap64 (x4_2 + 1)), (by first | rfl | (simp; done) | (simp [*]; done)), H', ⟨by have := HK1.out; have := HK2.out; omega⟩, by repeat (first | exact Drawn0.refl _ | apply Drawn0.step)⟩
           ·rw [if_neg c14] at H
            exact absurd H (by simp)
          ·rw [if_neg c13] at H
           exact absurd H (by simp)
         ·rw [if_neg c11] at H
          exact absurd H (by simp)
        ·rw [if_neg c10] at H
         exact absurd H (by simp)
       ·rw [if_neg c9] at H
        have c9b0 : decide ((wrap64 ((wrap64 (x4_2 + (a0.size : Int))) + 2)) ≤ 372) = false := decide_eq_false c9
        clear c9
        obtain rfl := Option.some.inj H
        go_wp2
        go_ret
        exact ⟨by first | rfl | (simp; done) | (simp [*]; done), by repeat (first | exact Drawn0.refl _ | apply Drawn0.step)⟩
end Go.Proofs.YthgfdnffnbclpaaGreatDoor.PAll
namespace Go.Proofs.YthgfdnffnbclpaaGreatDoor.PAll
open Go.RowKit Go.Shelf Go.Proofs.YthgfdnffnbclpaaGreatDoorW.PrintWords Go.Proofs.YthgfdnffnbclpaaGreatDoorW.PrintLast Go.Proofs.YthgfdnffnbclpaaGreatDoorW.PrintMore
attribute [local go_sem] Oper.semAt_some
def spB (c : UInt8) : Bool := decide (c.toNat = 9 ∨ c.toNat = 10 ∨ c.toNat = 11 ∨ c.toNat = 12 ∨ c.toNat = 13 ∨ c.toNat = 32)
def flds : List UInt8 → List UInt8 → List (List UInt8)
 | acc, [] => if acc = [] then [] else [acc]
 | acc, c :: r => if spB c = true then (if acc = [] then flds [] r else acc :: flds [] r) else flds (acc ++ [c]) r
def pieces (s : ByteArray) : List ByteArray := (flds [] s.data.toList).map fun b => ⟨b.toArray⟩
def KpF (n₀ Bs : Nat) (A B : World) : Prop := Below n₀ A B ∧ B.heap[Bs]? = A.heap[Bs]?
theorem KpF.trans {n₀ Bs : Nat} {A B C : World} (h : KpF n₀ Bs A B) (k : KpF n₀ Bs B C) : KpF n₀ Bs A C := ⟨h.1.trans k.1, k.2.trans h.2⟩
theorem KpF.refl (n₀ Bs : Nat) (A : World) : KpF n₀ Bs A A := ⟨Below.refl _ _, rfl⟩
theorem cell_same {A B : World} {b : Nat} (h : B.heap[b]? = A.heap[b]?) (j : Nat) : B.cell? ⟨b, j, none⟩ = A.cell? ⟨b, j, none⟩ := by simp [World.cell?, h]
theorem sdrop_at {s : ByteArray} {k : Nat} (h : k < s.size) : s.data.toList.drop k = s[k] :: s.data.toList.drop (k + 1) := by
 have h' : k < s.data.toList.length := by simpa using h
 rw [List.drop_eq_getElem_cons h']
 rfl
theorem extract_list (s : ByteArray) (a b : Nat) : s.extract a b = ⟨((s.data.toList.drop a).take (b - a)).toArray⟩ := by
 apply ByteArray.ext
 rw [ByteArray.data_extract]
 apply Array.toList_inj.mp
 simp
set_option maxRecDepth 100000 in
set_option maxHeartbeats 4000000 in
theorem fields1_in (F : Fence) (n : Nat) (h54 : F.fn 175) (hro : F.round = none) (hn : 1 ≤ n) (l Bs n₀ : Nat) (s : ByteArray) (hasc : ∀ b ∈ s.data.toList, b.toNat < 128) (hsz : s.size ≤ 4294967296) (J Jx : List ByteArray → World → Prop)
  (hY : ∀ pre x W, J pre W → pre.length < s.size + 1 → YieldAt F (n - 1) Tryz.prog l #[.string x] W fun e W' =>
   (e = .returned (.bool true) ∧ J (pre ++ [x]) W' ∧ KpF n₀ Bs W W') ∨ (e = .returned (.bool false) ∧ Jx (pre ++ [x]) W'))
  (W : World) (hBs : W.cell? ⟨Bs, 0, none⟩ = some (.string s)) (hT : ∀ c : Nat, c < 256 → W.cell? ⟨0, c, none⟩ = some (.int .u8 (if c = 9 ∨ c = 10 ∨ c = 11 ∨ c = 12 ∨ c = 13 ∨ c = 32 then 1 else 0))) (h0n : 0 < n₀) (h0 : J [] W) :
  CallsIn F n Tryz.prog 175 #[.func (.yield l) #[] #[], .pointer (some ⟨Bs, 0, none⟩)] W fun e W' => (∃ v, e = .returned v) ∧
   ((∃ ys, ys = pieces s ∧ J ys W') ∨ (∃ pre, pre <+: pieces s ∧ Jx pre W')) := by
 refine callsIn_of_wp Tryz.func175 rfl h54 ?_ hro
 simp only [Tryz.ntmps175, List.size_toArray, List.length_cons, List.length_nil, Nat.reduceAdd, Nat.reduceSub, Array.replicate_succ, Array.replicate_zero, List.push_toArray, List.append_toArray, List.nil_append, List.cons_append]
 gi_wp2
 gi_loopw [3, 4] (fun v3 v4 wr => ∃ (i : Nat) (pre : List ByteArray) (acc : List UInt8), v4 = .int .i64 i ∧ i ≤ s.size ∧ ((v3 = .int .i64 (-1) ∧ acc = []) ∨ ∃ st : Nat, v3 = .int .i64 st ∧ st < i ∧ acc = (s.data.toList.drop st).take (i - st)) ∧
   Aside0 (pieces s = pre ++ (flds acc (s.data.toList.drop i)).map (fun b => (⟨b.toArray⟩ : ByteArray))) ∧ pre.length ≤ i ∧ J pre wr ∧ KpF n₀ Bs W wr)
  (fun _ i _ => s.size - (intOf i).toNat)
 case atStart => exact ⟨0, [], [], rfl, Nat.zero_le _, .inl ⟨rfl, rfl⟩, ⟨rfl⟩, Nat.le_refl _, h0, KpF.refl _ _ _⟩
 case round =>
  obtain ⟨i, pre, acc, rfl, hi, hst, HF, hpl, hJs, hK⟩ := hrel
  have hs : wr.cell? ⟨Bs, 0, none⟩ = some (.string s) := (cell_same hK.2 0).trans hBs
  by_cases hlt : i < s.size
  ·have hd := sdrop_at hlt
   have hc128 : s[i].toNat < 128 := hasc _ (by rw [← List.mem_toArray, Array.toArray_toList]; exact Array.getElem_mem _)
   have hcell : wr.cell? ⟨0, s[i].toNat, none⟩ = some (.int .u8 (if s[i].toNat = 9 ∨ s[i].toNat = 10 ∨ s[i].toNat = 11 ∨ s[i].toNat = 12 ∨ s[i].toNat = 13 ∨ s[i].toNat = 32 then 1 else 0)) := (hK.1.cell (p := ⟨0, s[i].toNat, none⟩) h0n).trans (hT _ (by omega))
   have hci : (↑s[i].toNat : Int) < 128 := by omega
   have hci0 : (0 : Int) ≤ (↑s[i].toNat : Int) := by omega
   by_cases hsp : s[i].toNat = 9 ∨ s[i].toNat = 10 ∨ s[i].toNat = 11 ∨ s[i].toNat = 12 ∨ s[i].toNat = 13 ∨ s[i].toNat = 32
   ·rw [if_pos hsp] at hcell
    have hspB : spB s[i] = true := decide_eq_true hsp
    rcases hst with ⟨rfl, rfl⟩ | ⟨st, rfl, hst1, rfl⟩
    ·have HF' : Aside0 (pieces s = pre ++ (flds [] (s.data.toList.drop (i + 1))).map (fun b => (⟨b.toArray⟩ : ByteArray))) := by
      have h1 := HF.out
      rw [hd, flds, if_pos hspB, if_pos rfl] at h1
      exact ⟨h1⟩
     clear HF hd hT hsp hspB
     gi_wp2
     go_roundw
     case rel => exact ⟨i + 1, pre, [], by first | rfl | simp, by omega, .inl ⟨rfl, rfl⟩, HF', by omega, hJs, hK⟩
     case measure => simp [intOf]; omega
    ·have hne : (s.data.toList.drop st).take (i - st) ≠ [] := by
      intro e
      have := congrArg List.length e
      simp at this
      omega
     have hex : s.extract st i = ⟨((s.data.toList.drop st).take (i - st)).toArray⟩ := extract_list s st i
     have HF' : Aside0 (pieces s = (pre ++ [s.extract st i]) ++ (flds [] (s.data.toList.drop (i + 1))).map (fun b => (⟨b.toArray⟩ : ByteArray))) := by
      have h1 := HF.out
      rw [hd, flds, if_pos hspB, if_neg hne] at h1
      rw [h1, hex]
      exact ⟨by simp⟩
     obtain ⟨fn, tmps, assign, body, hy, hR⟩ := hY pre (s.extract st i) wr hJs (by omega)
     have j0 : (0 : Int) ≤ (st : Int) := by omega
     have j1 : (st : Int) ≤ (i : Int) := by omega
     have j2 : (i : Int) ≤ (s.size : Int) := by omega
     clear HF hd hT hsp hspB hne hex
     gi_wp2
     refine hR.mono ?_
     rintro e W3 (⟨rfl, hJ3, hk3⟩ | ⟨rfl, hJx3⟩)
     ·gi_wp2
      go_roundw
      case rel => exact ⟨i + 1, pre ++ [s.extract st i], [], by first | rfl | simp, by omega, .inl ⟨rfl, rfl⟩, HF', by simp; omega, hJ3, hK.trans hk3⟩
      case measure => simp [intOf]; omega
     ·gi_wp2
      refine bodyPost_ret (results_none rfl _ _ _) rfl ?_
      exact ⟨⟨_, rfl⟩, .inr ⟨_, ⟨_, HF'.out.symm⟩, hJx3⟩⟩
   ·rw [if_neg hsp] at hcell
    have hspB : ¬ spB s[i] = true := by simpa [spB] using hsp
    rcases hst with ⟨rfl, rfl⟩ | ⟨st, rfl, hst1, rfl⟩
    ·have hacc : [s[i]] = (s.data.toList.drop i).take (i + 1 - i) := by rw [hd]; simp
     have HF' : Aside0 (pieces s = pre ++ (flds ((s.data.toList.drop i).take (i + 1 - i)) (s.data.toList.drop (i + 1))).map (fun b => (⟨b.toArray⟩ : ByteArray))) := by
      have h1 := HF.out
      rw [hd, flds, if_neg hspB, List.nil_append] at h1
      rw [← hacc]
      exact ⟨h1⟩
     clear HF hd hT hsp hspB hacc
     gi_wp2
     go_roundw
     case rel => exact ⟨i + 1, pre, _, by first | rfl | simp, by omega, .inr ⟨i, rfl, by omega, rfl⟩, HF', by omega, hJs, hK⟩
     case measure => simp [intOf]; omega
    ·have hacc : (s.data.toList.drop st).take (i - st) ++ [s[i]] = (s.data.toList.drop st).take (i + 1 - st) := by
      have e1 : i + 1 - st = (i - st) + 1 := by omega
      rw [e1, List.take_add_one]
      congr 1
      rw [List.getElem?_drop, show st + (i - st) = i by omega]
      have h' : i < s.data.toList.length := by simpa using hlt
      rw [List.getElem?_eq_getElem h']
      rfl
     have HF' : Aside0 (pieces s = pre ++ (flds ((s.data.toList.drop st).take (i + 1 - st)) (s.data.toList.drop (i + 1))).map (fun b => (⟨b.toArray⟩ : ByteArray))) := by
      have h1 := HF.out
      rw [hd, flds, if_neg hspB, hacc] at h1
      exact ⟨h1⟩
     have j0 : ¬ (st : Int) < 0 := by omega
     clear HF hd hT hsp hspB hacc
     gi_wp2
     go_roundw
     case rel => exact ⟨i + 1, pre, _, by first | rfl | simp, by omega, .inr ⟨st, rfl, by omega, rfl⟩, HF', by omega, hJs, hK⟩
     case measure => simp [intOf]; omega
  ·obtain rfl : i = s.size := by omega
   have hnil : s.data.toList.drop s.size = [] := List.drop_eq_nil_of_le (by simp)
   rcases hst with ⟨rfl, rfl⟩ | ⟨st, rfl, hst1, rfl⟩
   ·have HF' : Aside0 (pieces s = pre) := by
     have h1 := HF.out
     rw [hnil, flds, if_pos rfl] at h1
     exact ⟨by simpa using h1⟩
    clear HF
    gi_wp2
    go_end0
    exact ⟨⟨_, rfl⟩, .inl ⟨pre, HF'.out.symm, hJs⟩⟩
   ·have hne : (s.data.toList.drop st).take (s.size - st) ≠ [] := by
     intro e
     have := congrArg List.length e
     simp at this
     omega
    have hex : s.extract st s.size = ⟨((s.data.toList.drop st).take (s.size - st)).toArray⟩ := extract_list s st s.size
    have HF' : Aside0 (pieces s = pre ++ [s.extract st s.size]) := by
     have h1 := HF.out
     rw [hnil, flds, if_neg hne] at h1
     rw [h1, hex]
     exact ⟨rfl⟩
    obtain ⟨fn, tmps, assign, body, hy, hR⟩ := hY pre (s.extract st s.size) wr hJs (by omega)
    have j0 : (0 : Int) ≤ (st : Int) := by omega
    have j2 : (st : Int) ≤ (s.size : Int) := by omega
    clear HF hnil hne hex hT
    gi_wp2
    refine hR.mono ?_
    rintro e W3 (⟨rfl, hJ3, hk3⟩ | ⟨rfl, hJx3⟩)
    ·gi_wp2
     go_end0
     exact ⟨⟨_, rfl⟩, .inl ⟨_, HF'.out.symm, hJ3⟩⟩
    ·gi_wp2
     go_end0
     exact ⟨⟨_, rfl⟩, .inr ⟨_, ⟨[], by rw [List.append_nil]; exact HF'.out.symm⟩, hJx3⟩⟩
end Go.Proofs.YthgfdnffnbclpaaGreatDoor.PAll
