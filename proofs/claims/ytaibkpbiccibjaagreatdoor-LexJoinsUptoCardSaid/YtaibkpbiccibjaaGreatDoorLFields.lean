/- strings.FieldsSeq over an ASCII text: what it yields, by the law of a range over a function. -/
import Derived.Test.YtaibkpbiccibjaaGreatDoorLStub
import Derived.RangeFuncNested
import Derived.RangeFuncBound
import Derived.RangeFuncCalls
import Derived.RangeFuncLeaves
import Derived.RangeFuncFrom
import Derived.RangeFuncBox
import Derived.Shelf.Abstract
import Derived.Shelf.RegionOpen
import Derived.OwnWalkIn
import Derived.TacticsInMore
import Derived.LoopNIn
import Derived.LoopIn
set_option linter.unusedVariables false
namespace Go.Proofs.YtaibkpbiccibjaaGreatDoor.PAll
open Go.RowKit Go.Shelf Go.Proofs.YtaibkpbiccibjaaGreatDoorW.PrintWords Go.Proofs.YtaibkpbiccibjaaGreatDoorW.PrintLast Go.Proofs.YtaibkpbiccibjaaGreatDoorW.PrintMore
attribute [local go_sem] Oper.semAt_some

def spB (c : UInt8) : Bool := decide (c.toNat = 9 ∨ c.toNat = 10 ∨ c.toNat = 11 ∨ c.toNat = 12 ∨ c.toNat = 13 ∨ c.toNat = 32)
/-- The pieces between blanks, a piece being under way. -/
def flds : List UInt8 → List UInt8 → List (List UInt8)
  | acc, [] => if acc = [] then [] else [acc]
  | acc, c :: r => if spB c = true then (if acc = [] then flds [] r else acc :: flds [] r) else flds (acc ++ [c]) r
def pieces (s : ByteArray) : List ByteArray := (flds [] s.data.toList).map fun b => ⟨b.toArray⟩

/-- What a round keeps: what lies below a block, and the block of the iterator's own text. -/
def KpF (n₀ Bs : Nat) (A B : World) : Prop := Below n₀ A B ∧ B.heap[Bs]? = A.heap[Bs]?
theorem KpF.trans {n₀ Bs : Nat} {A B C : World} (h : KpF n₀ Bs A B) (k : KpF n₀ Bs B C) : KpF n₀ Bs A C := ⟨h.1.trans k.1, k.2.trans h.2⟩
theorem KpF.refl (n₀ Bs : Nat) (A : World) : KpF n₀ Bs A A := ⟨Below.refl _ _, rfl⟩
theorem cell_same {A B : World} {b : Nat} (h : B.heap[b]? = A.heap[b]?) (j : Nat) : B.cell? ⟨b, j, none⟩ = A.cell? ⟨b, j, none⟩ := by simp [World.cell?, h]
theorem sdrop_at {s : ByteArray} {k : Nat} (h : k < s.size) : s.data.toList.drop k = s[k] :: s.data.toList.drop (k + 1) := by
  have h' : k < s.data.toList.length := by simpa using h
  rw [List.drop_eq_getElem_cons h']
  rfl
theorem extract_list (s : ByteArray) (a b : Nat) : s.extract a b = ⟨((s.data.toList.drop a).take (b - a)).toArray⟩ := by
  apply ByteArray.ext
  rw [ByteArray.data_extract]
  apply Array.toList_inj.mp
  simp

set_option maxRecDepth 100000 in
set_option maxHeartbeats 4000000 in
theorem fields1_in (F : Fence) (n : Nat) (h54 : F.fn 57) (hro : F.round = none) (hn : 1 ≤ n) (l Bs n₀ : Nat) (s : ByteArray) (hasc : ∀ b ∈ s.data.toList, b.toNat < 128) (hsz : s.size ≤ 4294967296) (J Jx : List ByteArray → World → Prop)
    (hY : ∀ pre x W, J pre W → pre.length < s.size + 1 → YieldAt F (n - 1) Tryz.prog l #[.string x] W fun e W' =>
      (e = .returned (.bool true) ∧ J (pre ++ [x]) W' ∧ KpF n₀ Bs W W') ∨ (e = .returned (.bool false) ∧ Jx (pre ++ [x]) W'))
    (W : World) (hBs : W.cell? ⟨Bs, 0, none⟩ = some (.string s)) (hT : ∀ c : Nat, c < 256 → W.cell? ⟨0, c, none⟩ = some (.int .u8 (if c = 9 ∨ c = 10 ∨ c = 11 ∨ c = 12 ∨ c = 13 ∨ c = 32 then 1 else 0))) (h0n : 0 < n₀) (h0 : J [] W) :
    CallsIn F n Tryz.prog 57 #[.func (.yield l) #[] #[], .pointer (some ⟨Bs, 0, none⟩)] W fun e W' => (∃ v, e = .returned v) ∧
      ((∃ ys, ys = pieces s ∧ J ys W') ∨ (∃ pre, pre <+: pieces s ∧ Jx pre W')) := by
  refine callsIn_of_wp Tryz.func57 rfl h54 ?_ hro
  simp only [Tryz.ntmps57, List.size_toArray, List.length_cons, List.length_nil, Nat.reduceAdd, Nat.reduceSub, Array.replicate_succ, Array.replicate_zero, List.push_toArray, List.append_toArray, List.nil_append, List.cons_append]
  gi_wp2
  gi_loopw [3, 4] (fun v3 v4 wr => ∃ (i : Nat) (pre : List ByteArray) (acc : List UInt8), v4 = .int .i64 i ∧ i ≤ s.size ∧ ((v3 = .int .i64 (-1) ∧ acc = []) ∨ ∃ st : Nat, v3 = .int .i64 st ∧ st < i ∧ acc = (s.data.toList.drop st).take (i - st)) ∧
      Aside0 (pieces s = pre ++ (flds acc (s.data.toList.drop i)).map (fun b => (⟨b.toArray⟩ : ByteArray))) ∧ pre.length ≤ i ∧ J pre wr ∧ KpF n₀ Bs W wr)
    (fun _ i _ => s.size - (intOf i).toNat)
  case atStart => exact ⟨0, [], [], rfl, Nat.zero_le _, .inl ⟨rfl, rfl⟩, ⟨rfl⟩, Nat.le_refl _, h0, KpF.refl _ _ _⟩
  case round =>
    obtain ⟨i, pre, acc, rfl, hi, hst, HF, hpl, hJs, hK⟩ := hrel
    have hs : wr.cell? ⟨Bs, 0, none⟩ = some (.string s) := (cell_same hK.2 0).trans hBs
    by_cases hlt : i < s.size
    · have hd := sdrop_at hlt
      have hc128 : s[i].toNat < 128 := hasc _ (by rw [← List.mem_toArray, Array.toArray_toList]; exact Array.getElem_mem _)
      have hcell : wr.cell? ⟨0, s[i].toNat, none⟩ = some (.int .u8 (if s[i].toNat = 9 ∨ s[i].toNat = 10 ∨ s[i].toNat = 11 ∨ s[i].toNat = 12 ∨ s[i].toNat = 13 ∨ s[i].toNat = 32 then 1 else 0)) := (hK.1.cell (p := ⟨0, s[i].toNat, none⟩) h0n).trans (hT _ (by omega))
      have hci : (↑s[i].toNat : Int) < 128 := by omega
      have hci0 : (0 : Int) ≤ (↑s[i].toNat : Int) := by omega
      by_cases hsp : s[i].toNat = 9 ∨ s[i].toNat = 10 ∨ s[i].toNat = 11 ∨ s[i].toNat = 12 ∨ s[i].toNat = 13 ∨ s[i].toNat = 32
      · rw [if_pos hsp] at hcell
        have hspB : spB s[i] = true := decide_eq_true hsp
        rcases hst with ⟨rfl, rfl⟩ | ⟨st, rfl, hst1, rfl⟩
        · have HF' : Aside0 (pieces s = pre ++ (flds [] (s.data.toList.drop (i + 1))).map (fun b => (⟨b.toArray⟩ : ByteArray))) := by
            have h1 := HF.out
            rw [hd, flds, if_pos hspB, if_pos rfl] at h1
            exact ⟨h1⟩
          clear HF hd hT hsp hspB
          gi_wp2
          go_roundw
          case rel => exact ⟨i + 1, pre, [], by first | rfl | simp, by omega, .inl ⟨rfl, rfl⟩, HF', by omega, hJs, hK⟩
          case measure => simp [intOf]; omega
        · have hne : (s.data.toList.drop st).take (i - st) ≠ [] := by
            intro e
            have := congrArg List.length e
            simp at this
            omega
          have hex : s.extract st i = ⟨((s.data.toList.drop st).take (i - st)).toArray⟩ := extract_list s st i
          have HF' : Aside0 (pieces s = (pre ++ [s.extract st i]) ++ (flds [] (s.data.toList.drop (i + 1))).map (fun b => (⟨b.toArray⟩ : ByteArray))) := by
            have h1 := HF.out
            rw [hd, flds, if_pos hspB, if_neg hne] at h1
            rw [h1, hex]
            exact ⟨by simp⟩
          obtain ⟨fn, tmps, assign, body, hy, hR⟩ := hY pre (s.extract st i) wr hJs (by omega)
          have j0 : (0 : Int) ≤ (st : Int) := by omega
          have j1 : (st : Int) ≤ (i : Int) := by omega
          have j2 : (i : Int) ≤ (s.size : Int) := by omega
          clear HF hd hT hsp hspB hne hex
          gi_wp2
          refine hR.mono ?_
          rintro e W3 (⟨rfl, hJ3, hk3⟩ | ⟨rfl, hJx3⟩)
          · gi_wp2
            go_roundw
            case rel => exact ⟨i + 1, pre ++ [s.extract st i], [], by first | rfl | simp, by omega, .inl ⟨rfl, rfl⟩, HF', by simp; omega, hJ3, hK.trans hk3⟩
            case measure => simp [intOf]; omega
          · gi_wp2
            refine bodyPost_ret (results_none rfl _ _ _) rfl ?_
            exact ⟨⟨_, rfl⟩, .inr ⟨_, ⟨_, HF'.out.symm⟩, hJx3⟩⟩
      · rw [if_neg hsp] at hcell
        have hspB : ¬ spB s[i] = true := by simpa [spB] using hsp
        rcases hst with ⟨rfl, rfl⟩ | ⟨st, rfl, hst1, rfl⟩
        · have hacc : [s[i]] = (s.data.toList.drop i).take (i + 1 - i) := by rw [hd]; simp
          have HF' : Aside0 (pieces s = pre ++ (flds ((s.data.toList.drop i).take (i + 1 - i)) (s.data.toList.drop (i + 1))).map (fun b => (⟨b.toArray⟩ : ByteArray))) := by
            have h1 := HF.out
            rw [hd, flds, if_neg hspB, List.nil_append] at h1
            rw [← hacc]
            exact ⟨h1⟩
          clear HF hd hT hsp hspB hacc
          gi_wp2
          go_roundw
          case rel => exact ⟨i + 1, pre, _, by first | rfl | simp, by omega, .inr ⟨i, rfl, by omega, rfl⟩, HF', by omega, hJs, hK⟩
          case measure => simp [intOf]; omega
        · have hacc : (s.data.toList.drop st).take (i - st) ++ [s[i]] = (s.data.toList.drop st).take (i + 1 - st) := by
            have e1 : i + 1 - st = (i - st) + 1 := by omega
            rw [e1, List.take_add_one]
            congr 1
            rw [List.getElem?_drop, show st + (i - st) = i by omega]
            have h' : i < s.data.toList.length := by simpa using hlt
            rw [List.getElem?_eq_getElem h']
            rfl
          have HF' : Aside0 (pieces s = pre ++ (flds ((s.data.toList.drop st).take (i + 1 - st)) (s.data.toList.drop (i + 1))).map (fun b => (⟨b.toArray⟩ : ByteArray))) := by
            have h1 := HF.out
            rw [hd, flds, if_neg hspB, hacc] at h1
            exact ⟨h1⟩
          have j0 : ¬ (st : Int) < 0 := by omega
          clear HF hd hT hsp hspB hacc
          gi_wp2
          go_roundw
          case rel => exact ⟨i + 1, pre, _, by first | rfl | simp, by omega, .inr ⟨st, rfl, by omega, rfl⟩, HF', by omega, hJs, hK⟩
          case measure => simp [intOf]; omega
    · obtain rfl : i = s.size := by omega
      have hnil : s.data.toList.drop s.size = [] := List.drop_eq_nil_of_le (by simp)
      rcases hst with ⟨rfl, rfl⟩ | ⟨st, rfl, hst1, rfl⟩
      · have HF' : Aside0 (pieces s = pre) := by
          have h1 := HF.out
          rw [hnil, flds, if_pos rfl] at h1
          exact ⟨by simpa using h1⟩
        clear HF
        gi_wp2
        go_end0
        exact ⟨⟨_, rfl⟩, .inl ⟨pre, HF'.out.symm, hJs⟩⟩
      · have hne : (s.data.toList.drop st).take (s.size - st) ≠ [] := by
          intro e
          have := congrArg List.length e
          simp at this
          omega
        have hex : s.extract st s.size = ⟨((s.data.toList.drop st).take (s.size - st)).toArray⟩ := extract_list s st s.size
        have HF' : Aside0 (pieces s = pre ++ [s.extract st s.size]) := by
          have h1 := HF.out
          rw [hnil, flds, if_neg hne] at h1
          rw [h1, hex]
          exact ⟨rfl⟩
        obtain ⟨fn, tmps, assign, body, hy, hR⟩ := hY pre (s.extract st s.size) wr hJs (by omega)
        have j0 : (0 : Int) ≤ (st : Int) := by omega
        have j2 : (st : Int) ≤ (s.size : Int) := by omega
        clear HF hnil hne hex hT
        gi_wp2
        refine hR.mono ?_
        rintro e W3 (⟨rfl, hJ3, hk3⟩ | ⟨rfl, hJx3⟩)
        · gi_wp2
          go_end0
          exact ⟨⟨_, rfl⟩, .inl ⟨_, HF'.out.symm, hJ3⟩⟩
        · gi_wp2
          go_end0
          exact ⟨⟨_, rfl⟩, .inr ⟨_, ⟨[], by rw [List.append_nil]; exact HF'.out.symm⟩, hJx3⟩⟩
end Go.Proofs.YtaibkpbiccibjaaGreatDoor.PAll
