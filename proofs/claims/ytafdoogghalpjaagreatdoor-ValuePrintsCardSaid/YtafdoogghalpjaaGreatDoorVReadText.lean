/- value.readText: the value of a text literal without its first byte. -/
import Derived.Test.YtafdoogghalpjaaGreatDoorVBuilder
import Derived.Test.YtafdoogghalpjaaGreatDoorVCut
import Derived.Test.YtafdoogghalpjaaGreatDoorVFb
set_option linter.unusedVariables false
namespace Go.Proofs.YtafdoogghalpjaaGreatDoor.PAll
open Go.RowKit Go.Proofs.YtafdoogghalpjaaGreatDoorW.PrintWords Go.Proofs.YtafdoogghalpjaaGreatDoorW.PrintLast Go.Proofs.YtafdoogghalpjaaGreatDoorW.PrintMore

def value_readText.l : Nat → List UInt8 → List UInt8 → Option (Int × Int × ByteArray × Int)
  | 0, _, _ => none
  | k + 1, l, o => if (Lib.cut l [39]).2.2 = false then value_Text.f ⟨(o ++ (Lib.cut l [39]).1).toArray⟩ else (if Lib.hasPrefix (Lib.cut l [39]).2.1 [39] = true then value_readText.l k (Lib.trimPrefix (Lib.cut l [39]).2.1 [39]) ((o ++ (Lib.cut l [39]).1) ++ [39]) else some (0, 0, (⟨#[]⟩ : ByteArray), 1))
def value_readText.f (k : Nat) (a0 : ByteArray) : Option (Int × Int × ByteArray × Int) := if a0.size ≤ 140737488351232 then (if Lib.hasSuffix a0.data.toList [39] = true then value_readText.l k (Lib.trimSuffix a0.data.toList [39]) [] else some (0, 0, (⟨#[]⟩ : ByteArray), 1)) else none

theorem cut_len (l : List UInt8) : (Lib.cut l [39]).1.length + (Lib.cut l [39]).2.1.length ≤ l.length ∧ ((Lib.cut l [39]).2.2 = true → (Lib.cut l [39]).1.length + (Lib.cut l [39]).2.1.length + 1 = l.length) := by
  have hge := Lib.indexByte_ge l 39
  rcases (by omega : Lib.indexByte l 39 = -1 ∨ 0 ≤ Lib.indexByte l 39) with hix | h0
  · rw [Cut.cut_miss hix]; simp
  · obtain ⟨i, hix⟩ := Int.eq_ofNat_of_zero_le h0
    have hlt : i < l.length := (List.getElem?_eq_some_iff.1 (Lib.indexByte_some hix).1).1
    rw [Cut.cut_hit hix]
    simp only [List.length_take, List.length_drop]
    omega

theorem trimPrefix_len (l p : List UInt8) : (Lib.trimPrefix l p).length ≤ l.length := by
  unfold Lib.trimPrefix
  split <;> simp
theorem trimSuffix_len (l p : List UInt8) : (Lib.trimSuffix l p).length ≤ l.length := by
  unfold Lib.trimSuffix
  split
  · rw [List.length_take]; omega
  · exact Nat.le_refl _
theorem byteCells_strCells (o : List UInt8) (l : List UInt8) : Lib.byteCells o ++ Lib.strCells ⟨l.toArray⟩ = Lib.byteCells (o ++ l) := by
  simp [Lib.byteCells, Lib.strCells]
theorem byteCells_one (o : List UInt8) (c : UInt8) : Lib.byteCells o ++ [.int .u8 c.toNat] = Lib.byteCells (o ++ [c]) := by
  simp [Lib.byteCells]

theorem below_lower {B B' : Nat} {w w' : World} (h : Below B w w') (hb : B' ≤ B) : Below B' w w' := ⟨h.os, h.tape, h.output, h.size, fun k hk => h.block k (by omega)⟩
theorem writeS_arm {B : Nat} {N : Nat} (o bf : List UInt8) (wr : World) (n : Nat) (h : ∀ n, Lib.IsBuilderF 85 5 B B (Lib.byteCells o) (wr.drewN n)) (hl : bf.length + o.length ≤ N) (hN : N ≤ 140737488351232) (hs : B ≤ wr.heap.size) :
    Calls Tryz.prog 78 #[.pointer (some ⟨B, 0, none⟩), .string ⟨bf.toArray⟩] (wr.drewN n) fun e w' => e = .returned (.tuple #[.int .i64 bf.length, .nilIface]) ∧ Lib.IsBuilderF 85 5 B B (Lib.byteCells (o ++ bf)) w' ∧ Below B wr w' := by
  refine (Bld.writeString B B (Lib.byteCells o) ⟨bf.toArray⟩ (wr.drewN n) (h n) (by rw [Lib.byteCells_length]; show _ + bf.toArray.size ≤ _; rw [List.size_toArray]; omega) hs).mono ?_
  rintro e w' ⟨rfl, h1, h2⟩
  refine ⟨by show Ending.returned (.tuple #[.int .i64 bf.toArray.size, .nilIface]) = _; rw [List.size_toArray], Or.inr ?_, ?_⟩
  · rw [← byteCells_strCells]; exact h1
  · exact (show Below B wr (wr.drewN n) from ⟨rfl, rfl, rfl, Nat.le_refl _, fun _ _ => rfl⟩).trans h2

set_option maxHeartbeats 8000000 in
set_option maxRecDepth 100000 in
theorem value_readText.calls (k : Nat) (a0 : ByteArray) (r1 : Int) (r2 : Int) (r3 : ByteArray) (r4 : Int) (w : World) (h : value_readText.f k a0 = some (r1, r2, r3, r4)) :
    Calls Tryz.prog 52 #[.string a0] w fun e w' => e = .returned (.tuple #[.agg #[.int .u8 r1, .int .i64 r2, .string r3], .int .i64 r4]) ∧ Below w.heap.size w w' := by
  have hu24 := Tryz.underlying24
  unfold value_readText.f at h
  split at h
  case isFalse => cases h
  rename_i hs
  have hcs := Tryz.strings_CutSuffix a0 ⟨#[39]⟩
  by_cases hq : Lib.hasSuffix a0.data.toList [39] = true
  · rw [if_pos hq] at h
    have hl := trimSuffix_len a0.data.toList [39]
    have hL0 : (Lib.trimSuffix a0.data.toList [39]).length ≤ a0.size := by simpa using hl
    have HCS : ∀ w, Aside0 (Calls Tryz.prog 85 #[.string a0, .string ⟨#[39]⟩] w fun e w' => e = .returned (.tuple #[.string ⟨(Lib.trimSuffix a0.data.toList [39]).toArray⟩, .bool true]) ∧ w' = w) := by
      intro w0; have := hcs w0 (by omega); rw [show (⟨#[39]⟩ : ByteArray).data.toList = [39] from rfl, hq] at this; exact ⟨this⟩
    generalize Lib.trimSuffix a0.data.toList [39] = l0 at *
    have H := Aside0.mk h
    clear h hcs hl
    go_enter Tryz.func52, Tryz.ntmps52
    go_wp2_with (go_at_call 85; (with_reducible refine (HCS _).out.mono ?_); rintro e w' ⟨rfl, rfl⟩)
    have hres : ((w.alloc (Obj.cells #[Value.int IntKind.u8 0, Value.int IntKind.i64 0, Value.string { data := #[] }] 24)).alloc (Obj.cells #[Value.pointer none, Value.slice none 0 0] 85)).heap[w.heap.size]? = some (.cells #[Value.int IntKind.u8 0, Value.int IntKind.i64 0, Value.string { data := #[] }] 24 (0, 0)) := by
      rw [Lib.alloc_old _ _ _ (by show _ < (w.heap.push _).size; rw [Array.size_push]; omega)]; show (w.heap.push _)[w.heap.size]? = _; rw [Array.getElem?_push_size]
    have hbld : Lib.IsBuilderF 85 5 (w.heap.size + 1) (w.heap.size + 1) (Lib.byteCells []) ((w.alloc (Obj.cells #[Value.int IntKind.u8 0, Value.int IntKind.i64 0, Value.string { data := #[] }] 24)).alloc (Obj.cells #[Value.pointer none, Value.slice none 0 0] 85)) := by
      have := Lib.fresh_isBuilder 85 5 (w.alloc (Obj.cells #[Value.int IntKind.u8 0, Value.int IntKind.i64 0, Value.string { data := #[] }] 24))
      rw [show (w.alloc (Obj.cells #[Value.int IntKind.u8 0, Value.int IntKind.i64 0, Value.string { data := #[] }] 24)).heap.size = w.heap.size + 1 from Array.size_push _] at this
      exact Lib.IsBuilderF.of this
    have hbel : Below w.heap.size w ((w.alloc (Obj.cells #[Value.int IntKind.u8 0, Value.int IntKind.i64 0, Value.string { data := #[] }] 24)).alloc (Obj.cells #[Value.pointer none, Value.slice none 0 0] 85)) :=
      ((Below.refl _ _).alloc (Nat.le_refl _) _).alloc (by simp) _
    have hsz : w.heap.size + 2 ≤ ((w.alloc (Obj.cells #[Value.int IntKind.u8 0, Value.int IntKind.i64 0, Value.string { data := #[] }] 24)).alloc (Obj.cells #[Value.pointer none, Value.slice none 0 0] 85)).heap.size := by simp
    generalize ((w.alloc (Obj.cells #[Value.int IntKind.u8 0, Value.int IntKind.i64 0, Value.string { data := #[] }] 24)).alloc (Obj.cells #[Value.pointer none, Value.slice none 0 0] 85)) = W1 at *
    have HRES := Aside0.mk hres
    have HBEL := Aside0.mk hbel
    clear hres hbel
    go_loopg [4] k (fun kq v4 w' => ∃ (l o : List UInt8), v4 = .string ⟨l.toArray⟩ ∧ Aside0 (value_readText.l kq l o = some (r1, r2, r3, r4)) ∧ Aside0 (kq ≤ k) ∧ Aside0 (o.length + l.length ≤ a0.size) ∧ Aside0 (Lib.IsBuilderF 85 5 (w.heap.size + 1) (w.heap.size + 1) (Lib.byteCells o) w') ∧ Aside0 (Below (w.heap.size + 1) W1 w'))
    case atStart => exact ⟨l0, [], rfl, H, ⟨Nat.le_refl _⟩, ⟨by simpa using hL0⟩, ⟨hbld⟩, ⟨Below.refl _ _⟩⟩
    case round =>
      clear H hL0 hbld HCS
      obtain ⟨l, o, rfl, HA, HK1, HL, HB, HW⟩ := hrel
      cases gk with
      | zero => exact absurd HA.out (by simp [value_readText.l])
      | succ k1 =>
        have H := HA.out
        clear HA
        simp only [value_readText.l] at H
        have hcl := cut_len l
        have HC : ∀ w0, Aside0 (Calls Tryz.prog 86 #[.string ⟨l.toArray⟩, .string ⟨#[39]⟩] w0 fun e w' => e = .returned (.tuple #[.string ⟨(Lib.cut l [39]).1.toArray⟩, .string ⟨(Lib.cut l [39]).2.1.toArray⟩, .bool (Lib.cut l [39]).2.2]) ∧ ∃ n, w' = w0.drewN n) :=
          fun w0 => ⟨Cut.cut ⟨l.toArray⟩ 39 w0 (by have := HL.out; show l.toArray.size ≤ _; rw [List.size_toArray]; omega)⟩
        generalize Lib.cut l [39] = x at *
        obtain ⟨bf, af, qt⟩ := x
        simp only at H HC hcl
        have hlo := HL.out
        have hbl : bf.length + o.length ≤ a0.size := by omega
        have HBL := Aside0.mk hbl
        have HCL := Aside0.mk hcl
        clear hcl hbl hlo
        cases qt with
        | false =>
          rw [if_pos rfl] at H
          have HT := Aside0.mk H
          clear H
          go_wp2_with (first | (go_at_call 86; (with_reducible refine (HC _).out.mono ?_); rintro e w1 ⟨rfl, n, rfl⟩))
          have hB1 : ∀ n, Lib.IsBuilderF 85 5 (w.heap.size + 1) (w.heap.size + 1) (Lib.byteCells o) (wr.drewN n) := fun n => HB.out
          have hs1 : w.heap.size + 1 ≤ wr.heap.size := by have := HW.out.size; omega
          have HS1 := Aside0.mk hs1
          clear hs1
          refine (writeS_arm o bf wr n hB1 HBL.out hs HS1.out).mono ?_
          rintro e w2 ⟨rfl, hb2, hw2⟩
          have HW2 := Aside0.mk (HW.out.trans hw2)
          clear HW hw2
          go_wp2_with (first | (go_at_call 80; refine (Tryz.Builder_String_any_f (w.heap.size + 1) (w.heap.size + 1) (o ++ bf) _ hb2 (by have := HW2.out.size; omega)).mono ?_; rintro e w3 ⟨rfl, hb3, hw3⟩))
          have HW3 := Aside0.mk (HW2.out.trans hw3)
          clear HW2 hw3 hb2 hb3
          go_wp2_with fail
          refine (value_Text.calls _ r1 r2 r3 r4 _ HT.out).mono ?_
          rintro e w4 ⟨rfl, hw4⟩
          have HW4 := Aside0.mk (HW3.out.trans (below_lower hw4 (by have := HW3.out.size; omega)))
          have hb4 : w4.heap[w.heap.size]? = some (.cells #[Value.int IntKind.u8 0, Value.int IntKind.i64 0, Value.string { data := #[] }] 24 (0, 0)) := by
            rw [HW4.out.block _ (by omega)]; exact HRES.out
          have HB4 := Aside0.mk hb4
          clear HW3 hw4 hb4
          have hc0 : w4.cell? ⟨w.heap.size, 0, none⟩ = some (.int .u8 0) := (blk_cell HB4.out 0).trans rfl
          have hc1 : w4.cell? ⟨w.heap.size, 1, none⟩ = some (.int .i64 0) := (blk_cell HB4.out 1).trans rfl
          have hc2 : w4.cell? ⟨w.heap.size, 2, none⟩ = some (.string (⟨#[]⟩ : ByteArray)) := (blk_cell HB4.out 2).trans rfl
          have hf0 := blk_frozen HB4.out 0
          have hf1 := blk_frozen HB4.out 1
          have hf2 := blk_frozen HB4.out 2
          go_wp2
          refine bodyPost_ret (results_ct rfl _ _ w.heap.size 24 #[.int .u8 r1, .int .i64 r2, .string r3] (0, 0) _ rfl (by refine blk_put (cs := #[.int .u8 r1, .int .i64 r2, .string (⟨#[]⟩ : ByteArray)]) ?_ 2 _ rfl; refine blk_put (cs := #[.int .u8 r1, .int .i64 0, .string (⟨#[]⟩ : ByteArray)]) ?_ 1 _ rfl; refine blk_put (cs := #[.int .u8 0, .int .i64 0, .string (⟨#[]⟩ : ByteArray)]) ?_ 0 _ rfl; exact HB4.out) Tryz.underlying24 rfl (by kernel_rfl)) rfl ?_
          exact ⟨rfl, (((HBEL.out.trans (below_lower HW4.out (by omega))).setCell (Nat.le_refl _) _).setCell (Nat.le_refl _) _).setCell (Nat.le_refl _) _⟩
        | true =>
          rw [if_neg (by decide)] at H
          have HCP : ∀ w0, Aside0 (Calls Tryz.prog 88 #[.string ⟨af.toArray⟩, .string ⟨#[39]⟩] w0 fun e w' => e = .returned (.tuple #[.string ⟨(Lib.trimPrefix af [39]).toArray⟩, .bool (Lib.hasPrefix af [39])]) ∧ w' = w0) :=
            fun w0 => ⟨Tryz.strings_CutPrefix ⟨af.toArray⟩ ⟨#[39]⟩ w0⟩
          have hB1 : ∀ n, Lib.IsBuilderF 85 5 (w.heap.size + 1) (w.heap.size + 1) (Lib.byteCells o) (wr.drewN n) := fun n => HB.out
          have hs1 : w.heap.size + 1 ≤ wr.heap.size := by have := HW.out.size; omega
          have HS1 := Aside0.mk hs1
          clear hs1
          by_cases hp : Lib.hasPrefix af [39] = true
          · rw [if_pos hp] at H
            have HN := Aside0.mk H
            clear H
            rw [hp] at HCP
            have hlen : (o ++ bf ++ [(39 : UInt8)]).length + (Lib.trimPrefix af [39]).length ≤ a0.size := by
              have h1 := trimPrefix_len af [39]
              have h2 := HCL.out.2 rfl
              have h3 := HL.out
              simp only [List.length_append, List.length_cons, List.length_nil]
              unfold Lib.trimPrefix at h1 ⊢
              rw [if_pos hp] at h1 ⊢
              have h4 : (List.drop [(39 : UInt8)].length af).length = af.length - 1 := by simp
              rw [h4] at h1 ⊢
              unfold Lib.hasPrefix at hp
              have h5 : 1 ≤ af.length := by cases af with | nil => simp at hp | cons _ _ => simp
              omega
            have HLEN := Aside0.mk hlen
            clear hlen hp
            go_wp2_with (first | (go_at_call 86; (with_reducible refine (HC _).out.mono ?_); rintro e w1 ⟨rfl, n, rfl⟩))
            refine (writeS_arm o bf wr n hB1 HBL.out hs HS1.out).mono ?_
            rintro e w2 ⟨rfl, hb2, hw2⟩
            have HW2 := Aside0.mk (HW.out.trans hw2)
            have HB2 := Aside0.mk hb2
            clear HW hw2 hb2 HB hB1
            go_wp2_with (first | (go_at_call 88; (with_reducible refine (HCP _).out.mono ?_); rintro e w' ⟨rfl, rfl⟩))
            refine (Bld.writeByte (w.heap.size + 1) (w.heap.size + 1) (Lib.byteCells (o ++ bf)) 39 _ HB2.out (by rw [Lib.byteCells_length]; have := HLEN.out; simp only [List.length_append, List.length_cons, List.length_nil] at this ⊢; omega) (by have := HW2.out.size; omega)).mono ?_
            rintro e w3 ⟨rfl, hb3, hw3⟩
            have HW3 := Aside0.mk (HW2.out.trans hw3)
            have hb4 : Lib.IsBuilderF 85 5 (w.heap.size + 1) (w.heap.size + 1) (Lib.byteCells (o ++ bf ++ [39])) w3 := Or.inr (by rw [← byteCells_one]; exact hb3)
            have HB4 := Aside0.mk hb4
            clear HW2 hw3 hb3 hb4 HB2
            go_wp2
            go_roundg k1
            case measure => have := HK1.out; omega
            case rel => exact ⟨Lib.trimPrefix af [39], o ++ bf ++ [39], rfl, HN, ⟨by have := HK1.out; omega⟩, HLEN, HB4, HW3⟩
          · rw [if_neg hp] at H
            have hp' : Lib.hasPrefix af [39] = false := by simpa using hp
            rw [hp'] at HCP
            simp only [Option.some.injEq, Prod.mk.injEq] at H
            have HR := Aside0.mk H
            clear H hp hp'
            go_wp2_with (first | (go_at_call 86; (with_reducible refine (HC _).out.mono ?_); rintro e w1 ⟨rfl, n, rfl⟩))
            refine (writeS_arm o bf wr n hB1 HBL.out hs HS1.out).mono ?_
            rintro e w2 ⟨rfl, hb2, hw2⟩
            have HW2 := Aside0.mk (HW.out.trans hw2)
            have HB2 := Aside0.mk hb2
            clear HW hw2 hb2 HB hB1
            have hb4 : w2.heap[w.heap.size]? = some (.cells #[Value.int IntKind.u8 0, Value.int IntKind.i64 0, Value.string { data := #[] }] 24 (0, 0)) := by
              rw [HW2.out.block _ (by omega)]; exact HRES.out
            have HB4 := Aside0.mk hb4
            clear hb4
            have hc0 : w2.cell? ⟨w.heap.size, 0, none⟩ = some (.int .u8 0) := (blk_cell HB4.out 0).trans rfl
            have hc1 : w2.cell? ⟨w.heap.size, 1, none⟩ = some (.int .i64 0) := (blk_cell HB4.out 1).trans rfl
            have hc2 : w2.cell? ⟨w.heap.size, 2, none⟩ = some (.string (⟨#[]⟩ : ByteArray)) := (blk_cell HB4.out 2).trans rfl
            have hf0 := blk_frozen HB4.out 0
            have hf1 := blk_frozen HB4.out 1
            have hf2 := blk_frozen HB4.out 2
            go_wp2_with (first | (go_at_call 88; (with_reducible refine (HCP _).out.mono ?_); rintro e w' ⟨rfl, rfl⟩))
            obtain ⟨h1, h2, h3, h4⟩ := HR.out
            subst h1 h2 h3 h4
            refine bodyPost_ret (results_ct rfl _ _ w.heap.size 24 #[.int .u8 0, .int .i64 0, .string (⟨#[]⟩ : ByteArray)] (0, 0) _ rfl (by refine blk_put (cs := #[.int .u8 0, .int .i64 0, .string (⟨#[]⟩ : ByteArray)]) ?_ 2 _ rfl; refine blk_put (cs := #[.int .u8 0, .int .i64 0, .string (⟨#[]⟩ : ByteArray)]) ?_ 1 _ rfl; refine blk_put (cs := #[.int .u8 0, .int .i64 0, .string (⟨#[]⟩ : ByteArray)]) ?_ 0 _ rfl; exact HB4.out) Tryz.underlying24 rfl (by kernel_rfl)) rfl ?_
            exact ⟨rfl, (((HBEL.out.trans (below_lower HW2.out (by omega))).setCell (Nat.le_refl _) _).setCell (Nat.le_refl _) _).setCell (Nat.le_refl _) _⟩
  · rw [if_neg hq] at h
    have hq' : Lib.hasSuffix a0.data.toList [39] = false := by simpa using hq
    have HCS : ∀ w, Aside0 (Calls Tryz.prog 85 #[.string a0, .string ⟨#[39]⟩] w fun e w' => e = .returned (.tuple #[.string ⟨(Lib.trimSuffix a0.data.toList [39]).toArray⟩, .bool false]) ∧ w' = w) := by
      intro w0; have := hcs w0 (by omega); rw [show (⟨#[39]⟩ : ByteArray).data.toList = [39] from rfl, hq'] at this; exact ⟨this⟩
    simp only [Option.some.injEq, Prod.mk.injEq] at h
    obtain ⟨rfl, rfl, rfl, rfl⟩ := h
    clear hcs hq hq'
    go_enter Tryz.func52, Tryz.ntmps52
    go_wp2_with (go_at_call 85; (with_reducible refine (HCS _).out.mono ?_); rintro e w' ⟨rfl, rfl⟩)
    exact bodyPost_ret (v := .tuple #[.agg #[.int .u8 0, .int .i64 0, .string ⟨#[]⟩], .int .i64 1]) (by simp [results, Tryz.results52, go_sem]) rfl ⟨rfl, (Below.refl _ _).alloc (Nat.le_refl _) _⟩
end Go.Proofs.YtafdoogghalpjaaGreatDoor.PAll
