/- value.Read: what any text is read as. -/
import Derived.Test.YtafdoogghalpjaaGreatDoorVReadText
import Derived.Test.YtafdoogghalpjaaGreatDoorVFp
import Derived.Test.YtafdoogghalpjaaGreatDoorVIs
import Derived.Lib.SmallJoins
set_option linter.unusedVariables false
namespace Go.Proofs.YtafdoogghalpjaaGreatDoor.PAll
open Go.RowKit Go.Proofs.YtafdoogghalpjaaGreatDoorW.PrintWords Go.Proofs.YtafdoogghalpjaaGreatDoorW.PrintLast Go.Proofs.YtafdoogghalpjaaGreatDoorW.PrintMore

theorem print_null : value_Print.f 0 0 (⟨#[]⟩ : ByteArray) = some ((⟨#[78, 85, 76, 76]⟩ : ByteArray), 0) := by
  unfold value_Print.f value_Valid.f; simp
theorem up_false : strings_ToUpper.f (⟨#[102, 97, 108, 115, 101]⟩ : ByteArray) = some (⟨#[70, 65, 76, 83, 69]⟩ : ByteArray) := by
  unfold strings_ToUpper.f; rw [if_pos (by decide)]; decide
theorem up_true : strings_ToUpper.f (⟨#[116, 114, 117, 101]⟩ : ByteArray) = some (⟨#[84, 82, 85, 69]⟩ : ByteArray) := by
  unfold strings_ToUpper.f; rw [if_pos (by decide)]; decide
theorem print_false : value_Print.f 3 0 (⟨#[]⟩ : ByteArray) = some ((⟨#[70, 65, 76, 83, 69]⟩ : ByteArray), 0) := by
  unfold value_Print.f value_Valid.f strconv_FormatBool_49.f strconv_FormatBool_83.f; simp [up_false, IntKind.wrap_u64]
theorem print_true : value_Print.f 3 1 (⟨#[]⟩ : ByteArray) = some ((⟨#[84, 82, 85, 69]⟩ : ByteArray), 0) := by
  unfold value_Print.f value_Valid.f strconv_FormatBool_49.f strconv_FormatBool_83.f; simp [up_true, IntKind.wrap_u64]

def digitsSet : ByteArray := ⟨#[48, 49, 50, 51, 52, 53, 54, 55, 56, 57]⟩
def value_Read.tail (k : Nat) (a0 : ByteArray) : Option (Int × Int × ByteArray × Int) :=
  if Lib.hasPrefix a0.data.toList [39] = true then value_readText.f k (a0.extract 1 a0.size)
  else if Lib.trimPrefix a0.data.toList [45] = [] then some (0, 0, ⟨#[]⟩, 1)
  else if Lib.trimS (Lib.trimPrefix a0.data.toList [45]) digitsSet.data.toList ≠ [] then some (0, 0, ⟨#[]⟩, 1)
  else if (Lib.trimPrefix a0.data.toList [45]).head? = some 48 ∧ a0.data.toList ≠ [48] then some (0, 0, ⟨#[]⟩, 1)
  else match Lib.parseIntB 64 a0.data.toList with
    | .ok v => some (1, v, ⟨#[]⟩, 0)
    | .range => some (0, 0, ⟨#[]⟩, 4)
    | _ => none
def value_Read.f (k : Nat) (a0 : ByteArray) : Option (Int × Int × ByteArray × Int) :=
  if a0.size ≤ 140737488351232 then
    if a0.toList = [78, 85, 76, 76] then some (0, 0, ⟨#[]⟩, 0)
    else if a0.toList = [70, 65, 76, 83, 69] then some (3, 0, ⟨#[]⟩, 0)
    else if a0.toList = [84, 82, 85, 69] then some (3, 1, ⟨#[]⟩, 0)
    else value_Read.tail k a0
  else none

theorem heap_new (w : World) (o : Obj) : (w.alloc o).heap[w.heap.size]? = some o := by
  show (w.heap.push o)[w.heap.size]? = _; rw [Array.getElem?_push_size]
theorem size_alloc (w : World) (o : Obj) : (w.alloc o).heap.size = w.heap.size + 1 := Array.size_push _
/-- What stands in the result's block, in the slice's, and that nothing older has turned. -/
structure RdW (w : World) (sb : Nat) (W : World) : Prop where
  res : W.heap[w.heap.size]? = some (.cells #[.int .u8 0, .int .i64 0, .string (⟨#[]⟩ : ByteArray)] 24 (0, 0))
  row : W.heap[sb]? = some (.cells #[.int .u8 0, .int .i64 0, .string (⟨#[]⟩ : ByteArray), .int .u8 3, .int .i64 0, .string (⟨#[]⟩ : ByteArray), .int .u8 3, .int .i64 1, .string (⟨#[]⟩ : ByteArray)] 24 (0, 0))
  below : Below w.heap.size w W
theorem RdW.on {w : World} {sb : Nat} {W W' : World} (h : RdW w sb W) (hb : Below W.heap.size W W') : RdW w sb W' := by
  have lt : ∀ {g : Nat} {o : Obj}, W.heap[g]? = some o → g < W.heap.size := fun hh => (Array.getElem?_eq_some_iff.1 hh).1
  refine ⟨by rw [hb.block _ (lt h.res)]; exact h.res, by rw [hb.block _ (lt h.row)]; exact h.row, h.below.trans (below_lower hb h.below.size)⟩
theorem RdW.alloc {w : World} {sb : Nat} {W : World} (h : RdW w sb W) (o : Obj) : RdW w sb (W.alloc o) := h.on ((Below.refl _ _).alloc (Nat.le_refl _) _)


set_option maxHeartbeats 8000000 in
set_option maxRecDepth 100000 in
theorem value_Read.calls (k : Nat) (a0 : ByteArray) (r1 : Int) (r2 : Int) (r3 : ByteArray) (r4 : Int) (w : World) (h : value_Read.f k a0 = some (r1, r2, r3, r4)) (hL : LaidV w) :
    Calls Tryz.prog 21 #[.string a0] w fun e w' => e = .returned (.tuple #[.agg #[.int .u8 r1, .int .i64 r2, .string r3], .int .i64 r4]) ∧ Below w.heap.size w w' := by
  unfold value_Read.f at h
  split at h
  case isFalse => cases h
  rename_i hs
  have H := Aside0.mk h
  clear h
  have hu24 := Tryz.underlying24
  have HL := Aside0.mk hL
  clear hL
  go_enter Tryz.func21, Tryz.ntmps21
  go_wp2_with (first | (go_at_call 50; (with_reducible refine (value_Bool.calls false 3 0 ⟨#[]⟩ _ rfl).mono ?_); rintro e w1 ⟨rfl, hb1⟩) | (go_at_call 50; (with_reducible refine (value_Bool.calls true 3 1 ⟨#[]⟩ _ rfl).mono ?_); rintro e w2 ⟨rfl, hb2⟩))
  have hR : RdW w w2.heap.size (w2.alloc (Obj.cells #[Value.int IntKind.u8 0, Value.int IntKind.i64 0, Value.string { data := #[] }, Value.int IntKind.u8 3, Value.int IntKind.i64 0, Value.string { data := #[] }, Value.int IntKind.u8 3, Value.int IntKind.i64 1, Value.string { data := #[] }] 24)) := by
    have hs := size_alloc w (Obj.cells #[Value.int IntKind.u8 0, Value.int IntKind.i64 0, Value.string { data := #[] }] 24)
    have h1 := hb1.size
    have h2 := hb2.size
    refine ⟨?_, heap_new _ _, ?_⟩
    · rw [Lib.alloc_old _ _ _ (by omega), hb2.block _ (by omega), hb1.block _ (by omega)]
      exact heap_new w _
    · exact (((Below.refl _ _).alloc (Nat.le_refl _) _).trans ((below_lower hb1 (by omega)).trans (below_lower hb2 (by omega)))).alloc (by omega) _
  generalize hsb : w2.heap.size = sb at *
  generalize (w2.alloc (Obj.cells #[Value.int IntKind.u8 0, Value.int IntKind.i64 0, Value.string { data := #[] }, Value.int IntKind.u8 3, Value.int IntKind.i64 0, Value.string { data := #[] }, Value.int IntKind.u8 3, Value.int IntKind.i64 1, Value.string { data := #[] }] 24)) = W0 at *
  clear hb1 hb2 hsb
  have HR := Aside0.mk hR
  clear hR
  refine wp_loop_rounds 4 ?_
  by_cases n0 : a0.toList = [78, 85, 76, 76]
  · have H1 := H.out
    rw [if_pos n0] at H1
    simp only [Option.some.injEq, Prod.mk.injEq] at H1
    obtain ⟨rfl, rfl, rfl, rfl⟩ := H1
    clear H
    have m0 : ([78, 85, 76, 76] == a0.toList) = true := by rw [n0]; rfl
    clear n0
    have c00 : W0.cell? ⟨sb, 0, none⟩ = some (.int .u8 0) := (blk_cell HR.out.row 0).trans rfl
    have c01 : W0.cell? ⟨sb, 1, none⟩ = some (.int .i64 0) := (blk_cell HR.out.row 1).trans rfl
    have c02 : W0.cell? ⟨sb, 2, none⟩ = some (.string (⟨#[]⟩ : ByteArray)) := (blk_cell HR.out.row 2).trans rfl
    rw [rounds_succ]
    go_wp2_with fail
    refine (value_Print.calls 0 0 ⟨#[]⟩ _ 0 _ print_null (LaidV.below HL (HR.out.alloc _).below)).mono ?_
    rintro e w3 ⟨rfl, hb0⟩
    have HR3 := Aside0.mk ((HR.out.alloc _).on hb0)
    have hv : w3.heap[W0.heap.size]? = some (.cells #[.int .u8 0, .int .i64 0, .string (⟨#[]⟩ : ByteArray)] 24 (0, 0)) := by rw [hb0.block _ (by rw [size_alloc]; omega)]; exact heap_new _ _
    have v0 : w3.cell? ⟨W0.heap.size, 0, none⟩ = some (.int .u8 0) := (blk_cell hv 0).trans rfl
    have v1 : w3.cell? ⟨W0.heap.size, 1, none⟩ = some (.int .i64 0) := (blk_cell hv 1).trans rfl
    have v2 : w3.cell? ⟨W0.heap.size, 2, none⟩ = some (.string (⟨#[]⟩ : ByteArray)) := (blk_cell hv 2).trans rfl
    have r0 : w3.cell? ⟨w.heap.size, 0, none⟩ = some (.int .u8 0) := (blk_cell HR3.out.res 0).trans rfl
    have r1_ : w3.cell? ⟨w.heap.size, 1, none⟩ = some (.int .i64 0) := (blk_cell HR3.out.res 1).trans rfl
    have r2_ : w3.cell? ⟨w.heap.size, 2, none⟩ = some (.string (⟨#[]⟩ : ByteArray)) := (blk_cell HR3.out.res 2).trans rfl
    have f0 := blk_frozen HR3.out.res 0
    have f1 := blk_frozen HR3.out.res 1
    have f2 := blk_frozen HR3.out.res 2
    clear hv hb0
    go_wp2
    refine bodyPost_ret (results_ct rfl _ _ w.heap.size 24 #[.int .u8 0, .int .i64 0, .string (⟨#[]⟩ : ByteArray)] (0, 0) _ rfl (by refine blk_put (cs := #[.int .u8 0, .int .i64 0, .string (⟨#[]⟩ : ByteArray)]) ?_ 2 _ rfl; refine blk_put (cs := #[.int .u8 0, .int .i64 0, .string (⟨#[]⟩ : ByteArray)]) ?_ 1 _ rfl; refine blk_put (cs := #[.int .u8 0, .int .i64 0, .string (⟨#[]⟩ : ByteArray)]) ?_ 0 _ rfl; exact HR3.out.res) Tryz.underlying24 rfl (by kernel_rfl)) rfl ?_
    exact ⟨rfl, ((HR3.out.below.setCell (Nat.le_refl _) _).setCell (Nat.le_refl _) _).setCell (Nat.le_refl _) _⟩
  have H2 := H.out
  rw [if_neg n0] at H2
  replace H := Aside0.mk H2
  clear H2
  have m0 : ([78, 85, 76, 76] == a0.toList) = false := by rw [beq_eq_false_iff_ne]; exact fun e => n0 e.symm
  clear n0
  have c00 : W0.cell? ⟨sb, 0, none⟩ = some (.int .u8 0) := (blk_cell HR.out.row 0).trans rfl
  have c01 : W0.cell? ⟨sb, 1, none⟩ = some (.int .i64 0) := (blk_cell HR.out.row 1).trans rfl
  have c02 : W0.cell? ⟨sb, 2, none⟩ = some (.string (⟨#[]⟩ : ByteArray)) := (blk_cell HR.out.row 2).trans rfl
  rw [rounds_succ]
  go_wp2_with fail
  refine (value_Print.calls 0 0 ⟨#[]⟩ _ 0 _ print_null (LaidV.below HL (HR.out.alloc _).below)).mono ?_
  rintro e w3 ⟨rfl, hb0⟩
  have HR3 := Aside0.mk ((HR.out.alloc _).on hb0)
  clear hb0 HR c00 c01 c02
  go_wp2_with fail
  by_cases n1 : a0.toList = [70, 65, 76, 83, 69]
  · have H1 := H.out
    rw [if_pos n1] at H1
    simp only [Option.some.injEq, Prod.mk.injEq] at H1
    obtain ⟨rfl, rfl, rfl, rfl⟩ := H1
    clear H
    have m1 : ([70, 65, 76, 83, 69] == a0.toList) = true := by rw [n1]; rfl
    clear n1
    have c10 : w3.cell? ⟨sb, 3, none⟩ = some (.int .u8 3) := (blk_cell HR3.out.row 3).trans rfl
    have c11 : w3.cell? ⟨sb, 4, none⟩ = some (.int .i64 0) := (blk_cell HR3.out.row 4).trans rfl
    have c12 : w3.cell? ⟨sb, 5, none⟩ = some (.string (⟨#[]⟩ : ByteArray)) := (blk_cell HR3.out.row 5).trans rfl
    rw [rounds_succ]
    go_wp2_with fail
    refine (value_Print.calls 3 0 ⟨#[]⟩ _ 0 _ print_false (LaidV.below HL (HR3.out.alloc _).below)).mono ?_
    rintro e w4 ⟨rfl, hb1⟩
    have HR4 := Aside0.mk ((HR3.out.alloc _).on hb1)
    have hv : w4.heap[w3.heap.size]? = some (.cells #[.int .u8 3, .int .i64 0, .string (⟨#[]⟩ : ByteArray)] 24 (0, 0)) := by rw [hb1.block _ (by rw [size_alloc]; omega)]; exact heap_new _ _
    have v0 : w4.cell? ⟨w3.heap.size, 0, none⟩ = some (.int .u8 3) := (blk_cell hv 0).trans rfl
    have v1 : w4.cell? ⟨w3.heap.size, 1, none⟩ = some (.int .i64 0) := (blk_cell hv 1).trans rfl
    have v2 : w4.cell? ⟨w3.heap.size, 2, none⟩ = some (.string (⟨#[]⟩ : ByteArray)) := (blk_cell hv 2).trans rfl
    have r0 : w4.cell? ⟨w.heap.size, 0, none⟩ = some (.int .u8 0) := (blk_cell HR4.out.res 0).trans rfl
    have r1_ : w4.cell? ⟨w.heap.size, 1, none⟩ = some (.int .i64 0) := (blk_cell HR4.out.res 1).trans rfl
    have r2_ : w4.cell? ⟨w.heap.size, 2, none⟩ = some (.string (⟨#[]⟩ : ByteArray)) := (blk_cell HR4.out.res 2).trans rfl
    have f0 := blk_frozen HR4.out.res 0
    have f1 := blk_frozen HR4.out.res 1
    have f2 := blk_frozen HR4.out.res 2
    clear hv hb1
    go_wp2
    refine bodyPost_ret (results_ct rfl _ _ w.heap.size 24 #[.int .u8 3, .int .i64 0, .string (⟨#[]⟩ : ByteArray)] (0, 0) _ rfl (by refine blk_put (cs := #[.int .u8 3, .int .i64 0, .string (⟨#[]⟩ : ByteArray)]) ?_ 2 _ rfl; refine blk_put (cs := #[.int .u8 3, .int .i64 0, .string (⟨#[]⟩ : ByteArray)]) ?_ 1 _ rfl; refine blk_put (cs := #[.int .u8 0, .int .i64 0, .string (⟨#[]⟩ : ByteArray)]) ?_ 0 _ rfl; exact HR4.out.res) Tryz.underlying24 rfl (by kernel_rfl)) rfl ?_
    exact ⟨rfl, ((HR4.out.below.setCell (Nat.le_refl _) _).setCell (Nat.le_refl _) _).setCell (Nat.le_refl _) _⟩
  have H2 := H.out
  rw [if_neg n1] at H2
  replace H := Aside0.mk H2
  clear H2
  have m1 : ([70, 65, 76, 83, 69] == a0.toList) = false := by rw [beq_eq_false_iff_ne]; exact fun e => n1 e.symm
  clear n1
  have c10 : w3.cell? ⟨sb, 3, none⟩ = some (.int .u8 3) := (blk_cell HR3.out.row 3).trans rfl
  have c11 : w3.cell? ⟨sb, 4, none⟩ = some (.int .i64 0) := (blk_cell HR3.out.row 4).trans rfl
  have c12 : w3.cell? ⟨sb, 5, none⟩ = some (.string (⟨#[]⟩ : ByteArray)) := (blk_cell HR3.out.row 5).trans rfl
  rw [rounds_succ]
  go_wp2_with fail
  refine (value_Print.calls 3 0 ⟨#[]⟩ _ 0 _ print_false (LaidV.below HL (HR3.out.alloc _).below)).mono ?_
  rintro e w4 ⟨rfl, hb1⟩
  have HR4 := Aside0.mk ((HR3.out.alloc _).on hb1)
  clear hb1 HR3 c10 c11 c12
  go_wp2_with fail
  by_cases n2 : a0.toList = [84, 82, 85, 69]
  · have H1 := H.out
    rw [if_pos n2] at H1
    simp only [Option.some.injEq, Prod.mk.injEq] at H1
    obtain ⟨rfl, rfl, rfl, rfl⟩ := H1
    clear H
    have m2 : ([84, 82, 85, 69] == a0.toList) = true := by rw [n2]; rfl
    clear n2
    have c20 : w4.cell? ⟨sb, 6, none⟩ = some (.int .u8 3) := (blk_cell HR4.out.row 6).trans rfl
    have c21 : w4.cell? ⟨sb, 7, none⟩ = some (.int .i64 1) := (blk_cell HR4.out.row 7).trans rfl
    have c22 : w4.cell? ⟨sb, 8, none⟩ = some (.string (⟨#[]⟩ : ByteArray)) := (blk_cell HR4.out.row 8).trans rfl
    rw [rounds_succ]
    go_wp2_with fail
    refine (value_Print.calls 3 1 ⟨#[]⟩ _ 0 _ print_true (LaidV.below HL (HR4.out.alloc _).below)).mono ?_
    rintro e w5 ⟨rfl, hb2⟩
    have HR5 := Aside0.mk ((HR4.out.alloc _).on hb2)
    have hv : w5.heap[w4.heap.size]? = some (.cells #[.int .u8 3, .int .i64 1, .string (⟨#[]⟩ : ByteArray)] 24 (0, 0)) := by rw [hb2.block _ (by rw [size_alloc]; omega)]; exact heap_new _ _
    have v0 : w5.cell? ⟨w4.heap.size, 0, none⟩ = some (.int .u8 3) := (blk_cell hv 0).trans rfl
    have v1 : w5.cell? ⟨w4.heap.size, 1, none⟩ = some (.int .i64 1) := (blk_cell hv 1).trans rfl
    have v2 : w5.cell? ⟨w4.heap.size, 2, none⟩ = some (.string (⟨#[]⟩ : ByteArray)) := (blk_cell hv 2).trans rfl
    have r0 : w5.cell? ⟨w.heap.size, 0, none⟩ = some (.int .u8 0) := (blk_cell HR5.out.res 0).trans rfl
    have r1_ : w5.cell? ⟨w.heap.size, 1, none⟩ = some (.int .i64 0) := (blk_cell HR5.out.res 1).trans rfl
    have r2_ : w5.cell? ⟨w.heap.size, 2, none⟩ = some (.string (⟨#[]⟩ : ByteArray)) := (blk_cell HR5.out.res 2).trans rfl
    have f0 := blk_frozen HR5.out.res 0
    have f1 := blk_frozen HR5.out.res 1
    have f2 := blk_frozen HR5.out.res 2
    clear hv hb2
    go_wp2
    refine bodyPost_ret (results_ct rfl _ _ w.heap.size 24 #[.int .u8 3, .int .i64 1, .string (⟨#[]⟩ : ByteArray)] (0, 0) _ rfl (by refine blk_put (cs := #[.int .u8 3, .int .i64 1, .string (⟨#[]⟩ : ByteArray)]) ?_ 2 _ rfl; refine blk_put (cs := #[.int .u8 3, .int .i64 0, .string (⟨#[]⟩ : ByteArray)]) ?_ 1 _ rfl; refine blk_put (cs := #[.int .u8 0, .int .i64 0, .string (⟨#[]⟩ : ByteArray)]) ?_ 0 _ rfl; exact HR5.out.res) Tryz.underlying24 rfl (by kernel_rfl)) rfl ?_
    exact ⟨rfl, ((HR5.out.below.setCell (Nat.le_refl _) _).setCell (Nat.le_refl _) _).setCell (Nat.le_refl _) _⟩
  have H2 := H.out
  rw [if_neg n2] at H2
  replace H := Aside0.mk H2
  clear H2
  have m2 : ([84, 82, 85, 69] == a0.toList) = false := by rw [beq_eq_false_iff_ne]; exact fun e => n2 e.symm
  clear n2
  have c20 : w4.cell? ⟨sb, 6, none⟩ = some (.int .u8 3) := (blk_cell HR4.out.row 6).trans rfl
  have c21 : w4.cell? ⟨sb, 7, none⟩ = some (.int .i64 1) := (blk_cell HR4.out.row 7).trans rfl
  have c22 : w4.cell? ⟨sb, 8, none⟩ = some (.string (⟨#[]⟩ : ByteArray)) := (blk_cell HR4.out.row 8).trans rfl
  rw [rounds_succ]
  go_wp2_with fail
  refine (value_Print.calls 3 1 ⟨#[]⟩ _ 0 _ print_true (LaidV.below HL (HR4.out.alloc _).below)).mono ?_
  rintro e w5 ⟨rfl, hb2⟩
  have HR5 := Aside0.mk ((HR4.out.alloc _).on hb2)
  clear hb2 HR4 c20 c21 c22
  go_wp2_with fail
  clear m0 m1 m2
  rw [rounds_succ]
  go_wp2_with fail
  have HHP := Tryz.strings_HasPrefix a0 ⟨#[39]⟩
  by_cases hp : Lib.hasPrefix a0.data.toList [39] = true
  · have H1 := H.out
    unfold value_Read.tail at H1
    rw [if_pos hp] at H1
    have HT := Aside0.mk H1
    clear H H1
    have hsz : 1 ≤ a0.size := by
      unfold Lib.hasPrefix at hp
      have : 1 ≤ a0.data.toList.length := by cases hx : a0.data.toList with | nil => rw [hx] at hp; simp at hp | cons _ _ => simp
      simpa using this
    have hsz2 : (1 : Int) ≤ (a0.size : Int) := by omega
    rw [show (⟨#[39]⟩ : ByteArray).data.toList = [39] from rfl, hp] at HHP
    clear hp
    refine (HHP _).mono ?_
    rintro e w6 ⟨rfl, rfl⟩
    go_wp2_with fail
    refine (value_readText.calls k _ r1 r2 r3 r4 _ HT.out).mono ?_
    rintro e w7 ⟨rfl, hb7⟩
    have HR7 := Aside0.mk (HR5.out.on hb7)
    clear hb7 HR5
    have r0 : w7.cell? ⟨w.heap.size, 0, none⟩ = some (.int .u8 0) := (blk_cell HR7.out.res 0).trans rfl
    have r1_ : w7.cell? ⟨w.heap.size, 1, none⟩ = some (.int .i64 0) := (blk_cell HR7.out.res 1).trans rfl
    have r2_ : w7.cell? ⟨w.heap.size, 2, none⟩ = some (.string (⟨#[]⟩ : ByteArray)) := (blk_cell HR7.out.res 2).trans rfl
    have f0 := blk_frozen HR7.out.res 0
    have f1 := blk_frozen HR7.out.res 1
    have f2 := blk_frozen HR7.out.res 2
    go_wp2
    refine bodyPost_ret (results_ct rfl _ _ w.heap.size 24 #[.int .u8 r1, .int .i64 r2, .string r3] (0, 0) _ rfl (by refine blk_put (cs := #[.int .u8 r1, .int .i64 r2, .string (⟨#[]⟩ : ByteArray)]) ?_ 2 _ rfl; refine blk_put (cs := #[.int .u8 r1, .int .i64 0, .string (⟨#[]⟩ : ByteArray)]) ?_ 1 _ rfl; refine blk_put (cs := #[.int .u8 0, .int .i64 0, .string (⟨#[]⟩ : ByteArray)]) ?_ 0 _ rfl; exact HR7.out.res) Tryz.underlying24 rfl (by kernel_rfl)) rfl ?_
    exact ⟨rfl, ((HR7.out.below.setCell (Nat.le_refl _) _).setCell (Nat.le_refl _) _).setCell (Nat.le_refl _) _⟩
  have H1 := H.out
  unfold value_Read.tail at H1
  rw [if_neg hp] at H1
  have hp' : Lib.hasPrefix a0.data.toList [39] = false := by simpa using hp
  rw [show (⟨#[39]⟩ : ByteArray).data.toList = [39] from rfl, hp'] at HHP
  clear hp hp' H
  have HTP := Tryz.strings_TrimPrefix a0 ⟨#[45]⟩
  rw [show (⟨#[45]⟩ : ByteArray).data.toList = [45] from rfl] at HTP
  have hdl : (Lib.trimPrefix a0.data.toList [45]).length ≤ 140737488351232 := by have := trimPrefix_len a0.data.toList [45]; simp at this; omega
  generalize Lib.trimPrefix a0.data.toList [45] = d at *
  have H := Aside0.mk H1
  clear H1
  refine (HHP _).mono ?_
  rintro e w6 ⟨rfl, rfl⟩
  go_wp2_with fail
  refine (HTP _).mono ?_
  rintro e w6 ⟨rfl, rfl⟩
  clear HHP HTP
  have HTR := fun w0 => strings_Trim.calls ⟨d.toArray⟩ digitsSet ⟨(Lib.trimS d digitsSet.data.toList).toArray⟩ w0 (by unfold strings_Trim.f; rw [if_pos ⟨by show d.toArray.size ≤ _; rw [List.size_toArray]; omega, by decide, by decide⟩])
  by_cases d0 : d = []
  · have H1 := H.out
    rw [if_pos d0] at H1
    simp only [Option.some.injEq, Prod.mk.injEq] at H1
    obtain ⟨rfl, rfl, rfl, rfl⟩ := H1
    subst d0
    clear H HTR
    have r0 : w6.cell? ⟨w.heap.size, 0, none⟩ = some (.int .u8 0) := (blk_cell HR5.out.res 0).trans rfl
    have r1_ : w6.cell? ⟨w.heap.size, 1, none⟩ = some (.int .i64 0) := (blk_cell HR5.out.res 1).trans rfl
    have r2_ : w6.cell? ⟨w.heap.size, 2, none⟩ = some (.string (⟨#[]⟩ : ByteArray)) := (blk_cell HR5.out.res 2).trans rfl
    have f0 := blk_frozen HR5.out.res 0
    have f1 := blk_frozen HR5.out.res 1
    have f2 := blk_frozen HR5.out.res 2
    go_wp2
    refine bodyPost_ret (results_ct rfl _ _ w.heap.size 24 #[.int .u8 0, .int .i64 0, .string (⟨#[]⟩ : ByteArray)] (0, 0) _ rfl (by refine blk_put (cs := #[.int .u8 0, .int .i64 0, .string (⟨#[]⟩ : ByteArray)]) ?_ 2 _ rfl; refine blk_put (cs := #[.int .u8 0, .int .i64 0, .string (⟨#[]⟩ : ByteArray)]) ?_ 1 _ rfl; refine blk_put (cs := #[.int .u8 0, .int .i64 0, .string (⟨#[]⟩ : ByteArray)]) ?_ 0 _ rfl; exact HR5.out.res) Tryz.underlying24 rfl (by kernel_rfl)) rfl ?_
    exact ⟨rfl, ((HR5.out.below.setCell (Nat.le_refl _) _).setCell (Nat.le_refl _) _).setCell (Nat.le_refl _) _⟩
  have H1 := H.out
  rw [if_neg d0] at H1
  have H := Aside0.mk H1
  clear H1
  have d0b : (d == []) = false := by simpa using d0
  have d0c : d.isEmpty = false := by simpa using d0
  have d0l : 0 < d.length := by cases d with | nil => exact absurd rfl d0 | cons _ _ => simp
  go_wp2_with fail
  refine (HTR _).mono ?_
  rintro e w7 ⟨rfl, hb7⟩
  have HR7 := Aside0.mk (HR5.out.on hb7)
  clear hb7 HR5 HTR
  generalize Lib.trimS d digitsSet.data.toList = t at *
  by_cases t0 : t = []
  case neg =>
    have H1 := H.out
    rw [if_pos t0] at H1
    simp only [Option.some.injEq, Prod.mk.injEq] at H1
    obtain ⟨rfl, rfl, rfl, rfl⟩ := H1
    have t0b : (t == []) = false := by simpa using t0
    have t0c : t.isEmpty = false := by simpa using t0
    have t0d : (t != []) = true := by simpa using t0
    clear H
    have r0 : w7.cell? ⟨w.heap.size, 0, none⟩ = some (.int .u8 0) := (blk_cell HR7.out.res 0).trans rfl
    have r1_ : w7.cell? ⟨w.heap.size, 1, none⟩ = some (.int .i64 0) := (blk_cell HR7.out.res 1).trans rfl
    have r2_ : w7.cell? ⟨w.heap.size, 2, none⟩ = some (.string (⟨#[]⟩ : ByteArray)) := (blk_cell HR7.out.res 2).trans rfl
    have f0 := blk_frozen HR7.out.res 0
    have f1 := blk_frozen HR7.out.res 1
    have f2 := blk_frozen HR7.out.res 2
    go_wp2
    refine bodyPost_ret (results_ct rfl _ _ w.heap.size 24 #[.int .u8 0, .int .i64 0, .string (⟨#[]⟩ : ByteArray)] (0, 0) _ rfl (by refine blk_put (cs := #[.int .u8 0, .int .i64 0, .string (⟨#[]⟩ : ByteArray)]) ?_ 2 _ rfl; refine blk_put (cs := #[.int .u8 0, .int .i64 0, .string (⟨#[]⟩ : ByteArray)]) ?_ 1 _ rfl; refine blk_put (cs := #[.int .u8 0, .int .i64 0, .string (⟨#[]⟩ : ByteArray)]) ?_ 0 _ rfl; exact HR7.out.res) Tryz.underlying24 rfl (by kernel_rfl)) rfl ?_
    exact ⟨rfl, ((HR7.out.below.setCell (Nat.le_refl _) _).setCell (Nat.le_refl _) _).setCell (Nat.le_refl _) _⟩
  have H1 := H.out
  rw [if_neg (fun h => h t0)] at H1
  subst t0
  have H := Aside0.mk H1
  clear H1
  have r0 : w7.cell? ⟨w.heap.size, 0, none⟩ = some (.int .u8 0) := (blk_cell HR7.out.res 0).trans rfl
  have r1_ : w7.cell? ⟨w.heap.size, 1, none⟩ = some (.int .i64 0) := (blk_cell HR7.out.res 1).trans rfl
  have r2_ : w7.cell? ⟨w.heap.size, 2, none⟩ = some (.string (⟨#[]⟩ : ByteArray)) := (blk_cell HR7.out.res 2).trans rfl
  have f0 := blk_frozen HR7.out.res 0
  have f1 := blk_frozen HR7.out.res 1
  have f2 := blk_frozen HR7.out.res 2
  have hsz0 : 0 < (⟨d.toArray⟩ : ByteArray).size := by show 0 < d.toArray.size; simpa using d0l
  have hd : ((((⟨d.toArray⟩ : ByteArray)[0]'hsz0).toNat : Int) == 48) = decide (d.head? = some 48) := by
    cases d with
    | nil => exact absurd d0l (by simp)
    | cons x d' =>
      rw [Bool.eq_iff_iff]; show ((((x.toNat : Nat) : Int) == 48) = true) ↔ _
      simp only [List.head?_cons, Option.some.injEq, beq_iff_eq, decide_eq_true_eq]
      constructor
      · intro e; exact UInt8.toNat_inj.mp (by show x.toNat = 48; omega)
      · intro e; subst e; rfl
  have hE := Lib.toList_data a0
  by_cases hc1 : d.head? = some 48
  case neg =>
    have e1 : ((((⟨d.toArray⟩ : ByteArray)[0]'hsz0).toNat : Int) == 48) = false := by rw [hd]; simpa using hc1
    have hno : ¬(d.head? = some 48 ∧ a0.data.toList ≠ [48]) := fun h => hc1 h.1
    have H1 := H.out
    clear hd hE hc1
    go_wp2_with fail
    rw [if_neg hno] at H1
    clear H hno
    have hg0 := HL.out.range
    obtain ⟨ea, hea, heb⟩ := hg0
    have hglob : w7.cell? ⟨0, 0, none⟩ = some (.iface 164 (.pointer (some ea))) := cell_below HR7.out.below hea
    cases hp : Lib.parseIntB 64 a0.data.toList with
    | ok v =>
      rw [hp] at H1
      simp only [Option.some.injEq, Prod.mk.injEq] at H1
      obtain ⟨rfl, rfl, rfl, rfl⟩ := H1
      refine (Tryz.strconv_ParseInt_10_at64_ok a0 (by omega) v hp _).mono ?_
      rintro e w8 ⟨rfl, hw8⟩
      have hb8 : Below w7.heap.size w7 w8 := by
        rcases hw8 with rfl | ⟨t, rfl⟩
        · exact Below.refl _ _
        · exact Go.Joins.below_bytesWorld _ w7 5 t (Nat.le_refl _)
      have HR8 := Aside0.mk (HR7.out.on hb8)
      have hglob8 : w8.cell? ⟨0, 0, none⟩ = some (.iface 164 (.pointer (some ea))) := cell_below hb8 hglob
      clear hb8 hw8 hp hglob r0 r1_ r2_ f0 f1 f2 HR7
      go_wp2_with (first | (go_at_call 55; (with_reducible refine (Is.nil ea _).mono ?_); rintro e w9 ⟨rfl, rfl⟩))
      go_wp2_with fail
      refine (value_Int.calls v 1 v ⟨#[]⟩ _ rfl).mono ?_
      rintro e w10 ⟨rfl, hb10⟩
      have HR10 := Aside0.mk (HR8.out.on hb10)
      clear hb10 HR8
      have r0 : w10.cell? ⟨w.heap.size, 0, none⟩ = some (.int .u8 0) := (blk_cell HR10.out.res 0).trans rfl
      have r1_ : w10.cell? ⟨w.heap.size, 1, none⟩ = some (.int .i64 0) := (blk_cell HR10.out.res 1).trans rfl
      have r2_ : w10.cell? ⟨w.heap.size, 2, none⟩ = some (.string (⟨#[]⟩ : ByteArray)) := (blk_cell HR10.out.res 2).trans rfl
      have f0 := blk_frozen HR10.out.res 0
      have f1 := blk_frozen HR10.out.res 1
      have f2 := blk_frozen HR10.out.res 2
      go_wp2
      refine bodyPost_ret (results_ct rfl _ _ w.heap.size 24 #[.int .u8 1, .int .i64 v, .string (⟨#[]⟩ : ByteArray)] (0, 0) _ rfl (by refine blk_put (cs := #[.int .u8 1, .int .i64 v, .string (⟨#[]⟩ : ByteArray)]) ?_ 2 _ rfl; refine blk_put (cs := #[.int .u8 1, .int .i64 0, .string (⟨#[]⟩ : ByteArray)]) ?_ 1 _ rfl; refine blk_put (cs := #[.int .u8 0, .int .i64 0, .string (⟨#[]⟩ : ByteArray)]) ?_ 0 _ rfl; exact HR10.out.res) Tryz.underlying24 rfl (by kernel_rfl)) rfl ?_
      exact ⟨rfl, ((HR10.out.below.setCell (Nat.le_refl _) _).setCell (Nat.le_refl _) _).setCell (Nat.le_refl _) _⟩
    | range =>
      rw [hp] at H1
      simp only [Option.some.injEq, Prod.mk.injEq] at H1
      obtain ⟨rfl, rfl, rfl, rfl⟩ := H1
      refine (Tryz.strconv_ParseInt_10_at64_range a0 (by omega) hp _ _ hglob (Or.inr ⟨_, _, rfl⟩)).mono ?_
      rintro e w8 ⟨N, rfl, hN, hN2, hb8⟩
      have HR8 := Aside0.mk (HR7.out.on hb8)
      have hglob8 : w8.cell? ⟨0, 0, none⟩ = some (.iface 164 (.pointer (some ea))) := cell_below hb8 hglob
      have hcN : w8.cell? ⟨N, 2, none⟩ = some (.iface 164 (.pointer (some ea))) := (blk_cell hN2 2).trans rfl
      have HIS := fun w0 h => Is.range N ea w0 h
      clear hb8 hp hglob r0 r1_ r2_ f0 f1 f2 HR7 hN hN2
      have r0 : w8.cell? ⟨w.heap.size, 0, none⟩ = some (.int .u8 0) := (blk_cell HR8.out.res 0).trans rfl
      have r1_ : w8.cell? ⟨w.heap.size, 1, none⟩ = some (.int .i64 0) := (blk_cell HR8.out.res 1).trans rfl
      have r2_ : w8.cell? ⟨w.heap.size, 2, none⟩ = some (.string (⟨#[]⟩ : ByteArray)) := (blk_cell HR8.out.res 2).trans rfl
      have f0 := blk_frozen HR8.out.res 0
      have f1 := blk_frozen HR8.out.res 1
      have f2 := blk_frozen HR8.out.res 2
      go_wp2_with (first | (go_at_call 55; refine (HIS _ hcN).mono ?_; rintro e w9 ⟨rfl, rfl⟩))
      refine bodyPost_ret (results_ct rfl _ _ w.heap.size 24 #[.int .u8 0, .int .i64 0, .string (⟨#[]⟩ : ByteArray)] (0, 0) _ rfl (by refine blk_put (cs := #[.int .u8 0, .int .i64 0, .string (⟨#[]⟩ : ByteArray)]) ?_ 2 _ rfl; refine blk_put (cs := #[.int .u8 0, .int .i64 0, .string (⟨#[]⟩ : ByteArray)]) ?_ 1 _ rfl; refine blk_put (cs := #[.int .u8 0, .int .i64 0, .string (⟨#[]⟩ : ByteArray)]) ?_ 0 _ rfl; exact HR8.out.res) Tryz.underlying24 rfl (by kernel_rfl)) rfl ?_
      exact ⟨rfl, ((HR8.out.below.setCell (Nat.le_refl _) _).setCell (Nat.le_refl _) _).setCell (Nat.le_refl _) _⟩
    | _ => rw [hp] at H1; cases H1
  by_cases hc2 : a0.data.toList = [48]
  case pos =>
    have e1 : ((((⟨d.toArray⟩ : ByteArray)[0]'hsz0).toNat : Int) == 48) = true := by rw [hd]; simpa using hc1
    have e2 : (a0.toList == [48]) = true := by rw [hE, hc2]; rfl
    have hno : ¬(d.head? = some 48 ∧ a0.data.toList ≠ [48]) := fun h => h.2 hc2
    have H1 := H.out
    clear hd hE hc1 hc2
    go_wp2_with fail
    rw [if_neg hno] at H1
    clear H hno
    have hg0 := HL.out.range
    obtain ⟨ea, hea, heb⟩ := hg0
    have hglob : w7.cell? ⟨0, 0, none⟩ = some (.iface 164 (.pointer (some ea))) := cell_below HR7.out.below hea
    cases hp : Lib.parseIntB 64 a0.data.toList with
    | ok v =>
      rw [hp] at H1
      simp only [Option.some.injEq, Prod.mk.injEq] at H1
      obtain ⟨rfl, rfl, rfl, rfl⟩ := H1
      refine (Tryz.strconv_ParseInt_10_at64_ok a0 (by omega) v hp _).mono ?_
      rintro e w8 ⟨rfl, hw8⟩
      have hb8 : Below w7.heap.size w7 w8 := by
        rcases hw8 with rfl | ⟨t, rfl⟩
        · exact Below.refl _ _
        · exact Go.Joins.below_bytesWorld _ w7 5 t (Nat.le_refl _)
      have HR8 := Aside0.mk (HR7.out.on hb8)
      have hglob8 : w8.cell? ⟨0, 0, none⟩ = some (.iface 164 (.pointer (some ea))) := cell_below hb8 hglob
      clear hb8 hw8 hp hglob r0 r1_ r2_ f0 f1 f2 HR7
      go_wp2_with (first | (go_at_call 55; (with_reducible refine (Is.nil ea _).mono ?_); rintro e w9 ⟨rfl, rfl⟩))
      go_wp2_with fail
      refine (value_Int.calls v 1 v ⟨#[]⟩ _ rfl).mono ?_
      rintro e w10 ⟨rfl, hb10⟩
      have HR10 := Aside0.mk (HR8.out.on hb10)
      clear hb10 HR8
      have r0 : w10.cell? ⟨w.heap.size, 0, none⟩ = some (.int .u8 0) := (blk_cell HR10.out.res 0).trans rfl
      have r1_ : w10.cell? ⟨w.heap.size, 1, none⟩ = some (.int .i64 0) := (blk_cell HR10.out.res 1).trans rfl
      have r2_ : w10.cell? ⟨w.heap.size, 2, none⟩ = some (.string (⟨#[]⟩ : ByteArray)) := (blk_cell HR10.out.res 2).trans rfl
      have f0 := blk_frozen HR10.out.res 0
      have f1 := blk_frozen HR10.out.res 1
      have f2 := blk_frozen HR10.out.res 2
      go_wp2
      refine bodyPost_ret (results_ct rfl _ _ w.heap.size 24 #[.int .u8 1, .int .i64 v, .string (⟨#[]⟩ : ByteArray)] (0, 0) _ rfl (by refine blk_put (cs := #[.int .u8 1, .int .i64 v, .string (⟨#[]⟩ : ByteArray)]) ?_ 2 _ rfl; refine blk_put (cs := #[.int .u8 1, .int .i64 0, .string (⟨#[]⟩ : ByteArray)]) ?_ 1 _ rfl; refine blk_put (cs := #[.int .u8 0, .int .i64 0, .string (⟨#[]⟩ : ByteArray)]) ?_ 0 _ rfl; exact HR10.out.res) Tryz.underlying24 rfl (by kernel_rfl)) rfl ?_
      exact ⟨rfl, ((HR10.out.below.setCell (Nat.le_refl _) _).setCell (Nat.le_refl _) _).setCell (Nat.le_refl _) _⟩
    | range =>
      rw [hp] at H1
      simp only [Option.some.injEq, Prod.mk.injEq] at H1
      obtain ⟨rfl, rfl, rfl, rfl⟩ := H1
      refine (Tryz.strconv_ParseInt_10_at64_range a0 (by omega) hp _ _ hglob (Or.inr ⟨_, _, rfl⟩)).mono ?_
      rintro e w8 ⟨N, rfl, hN, hN2, hb8⟩
      have HR8 := Aside0.mk (HR7.out.on hb8)
      have hglob8 : w8.cell? ⟨0, 0, none⟩ = some (.iface 164 (.pointer (some ea))) := cell_below hb8 hglob
      have hcN : w8.cell? ⟨N, 2, none⟩ = some (.iface 164 (.pointer (some ea))) := (blk_cell hN2 2).trans rfl
      have HIS := fun w0 h => Is.range N ea w0 h
      clear hb8 hp hglob r0 r1_ r2_ f0 f1 f2 HR7 hN hN2
      have r0 : w8.cell? ⟨w.heap.size, 0, none⟩ = some (.int .u8 0) := (blk_cell HR8.out.res 0).trans rfl
      have r1_ : w8.cell? ⟨w.heap.size, 1, none⟩ = some (.int .i64 0) := (blk_cell HR8.out.res 1).trans rfl
      have r2_ : w8.cell? ⟨w.heap.size, 2, none⟩ = some (.string (⟨#[]⟩ : ByteArray)) := (blk_cell HR8.out.res 2).trans rfl
      have f0 := blk_frozen HR8.out.res 0
      have f1 := blk_frozen HR8.out.res 1
      have f2 := blk_frozen HR8.out.res 2
      go_wp2_with (first | (go_at_call 55; refine (HIS _ hcN).mono ?_; rintro e w9 ⟨rfl, rfl⟩))
      refine bodyPost_ret (results_ct rfl _ _ w.heap.size 24 #[.int .u8 0, .int .i64 0, .string (⟨#[]⟩ : ByteArray)] (0, 0) _ rfl (by refine blk_put (cs := #[.int .u8 0, .int .i64 0, .string (⟨#[]⟩ : ByteArray)]) ?_ 2 _ rfl; refine blk_put (cs := #[.int .u8 0, .int .i64 0, .string (⟨#[]⟩ : ByteArray)]) ?_ 1 _ rfl; refine blk_put (cs := #[.int .u8 0, .int .i64 0, .string (⟨#[]⟩ : ByteArray)]) ?_ 0 _ rfl; exact HR8.out.res) Tryz.underlying24 rfl (by kernel_rfl)) rfl ?_
      exact ⟨rfl, ((HR8.out.below.setCell (Nat.le_refl _) _).setCell (Nat.le_refl _) _).setCell (Nat.le_refl _) _⟩
    | _ => rw [hp] at H1; cases H1
  have e1 : ((((⟨d.toArray⟩ : ByteArray)[0]'hsz0).toNat : Int) == 48) = true := by rw [hd]; simpa using hc1
  have e2 : (a0.toList == [48]) = false := by rw [hE]; simpa using hc2
  have H1 := H.out
  rw [if_pos ⟨hc1, hc2⟩] at H1
  simp only [Option.some.injEq, Prod.mk.injEq] at H1
  obtain ⟨rfl, rfl, rfl, rfl⟩ := H1
  clear hd hE hc1 hc2
  go_wp2
  refine bodyPost_ret (results_ct rfl _ _ w.heap.size 24 #[.int .u8 0, .int .i64 0, .string (⟨#[]⟩ : ByteArray)] (0, 0) _ rfl (by refine blk_put (cs := #[.int .u8 0, .int .i64 0, .string (⟨#[]⟩ : ByteArray)]) ?_ 2 _ rfl; refine blk_put (cs := #[.int .u8 0, .int .i64 0, .string (⟨#[]⟩ : ByteArray)]) ?_ 1 _ rfl; refine blk_put (cs := #[.int .u8 0, .int .i64 0, .string (⟨#[]⟩ : ByteArray)]) ?_ 0 _ rfl; exact HR7.out.res) Tryz.underlying24 rfl (by kernel_rfl)) rfl ?_
  exact ⟨rfl, ((HR7.out.below.setCell (Nat.le_refl _) _).setCell (Nat.le_refl _) _).setCell (Nat.le_refl _) _⟩
end Go.Proofs.YtafdoogghalpjaaGreatDoor.PAll
namespace Go.Proofs.YtafdoogghalpjaaGreatDoor.PAll
open Go.RowKit Go.Proofs.YtafdoogghalpjaaGreatDoorW.PrintWords Go.Proofs.YtafdoogghalpjaaGreatDoorW.PrintLast Go.Proofs.YtafdoogghalpjaaGreatDoorW.PrintMore
theorem value_readText.mono_l : ∀ k l o, LeO (value_readText.l k l o) (value_readText.l (k + 1) l o)
  | 0 => fun _ _ r h => by simp [value_readText.l] at h
  | k + 1 => by
    intro l o
    have ih := value_readText.mono_l k
    simp only [value_readText.l]
    repeat' first
      | exact ih _ _
      | exact LeO.refl _
      | refine LeO.ite ?_ ?_
theorem value_readText.mono : ∀ a0 k, LeO (value_readText.f k a0) (value_readText.f (k + 1) a0) := by
  intro a0 k
  unfold value_readText.f
  repeat' first
    | exact value_readText.mono_l k _ _
    | exact LeO.refl _
    | refine LeO.ite ?_ ?_
theorem value_Read.mono : ∀ a0 k, LeO (value_Read.f k a0) (value_Read.f (k + 1) a0) := by
  intro a0 k
  unfold value_Read.f value_Read.tail
  repeat' first
    | (with_reducible exact value_readText.mono _ k)
    | (with_reducible exact LeO.refl _)
    | (with_reducible refine LeO.ite ?_ ?_)
end Go.Proofs.YtafdoogghalpjaaGreatDoor.PAll
