import Derived.Test.YthgfdnffnbclpaaGreatDoorSQG03
import Derived.DeepKeys4
import Derived.Maps.OwnOps
import Derived.Test.YthgfdnffnbclpaaGreatDoorRows
import Derived.Test.YthgfdnffnbclpaaGreatDoorCards
import Derived.Test.YthgfdnffnbclpaaGreatDoorTie
import Derived.WalkKit
import Derived.ProofKit
import Derived.OpenShut
import Derived.ShutString
import Derived.ChangeOld
import Derived.Below
import Derived.Carry
import Derived.SizedLaws
import Derived.HandedShaped
import Derived.Lib.SmallJoins
import Derived.Lib.LaidTab
import Derived.Shelf.Vars
import Derived.Lay
import Derived.LaidOnce
import Derived.SevenTiedAt
import Derived.Stop.LaidErr
import Derived.Deep.Slices
import Derived.Deep.Fields
import Derived.ChangeSame
import Derived.Deep.Upon
set_option linter.unusedVariables false
set_option linter.unusedSimpArgs false
namespace Go.Proofs.YthgfdnffnbclpaaGreatDoor.PAll
open Go.RowKit Go.Proofs.YthgfdnffnbclpaaGreatDoorW.PrintWords Go.Proofs.YthgfdnffnbclpaaGreatDoorW.PrintLast Go.Proofs.YthgfdnffnbclpaaGreatDoorW.PrintMore
def wfV (x : S64) : Prop := (Lit.int .u8 x.f0).wf = true ∧ (Lit.int .i64 x.f1).wf = true ∧ x.f2.size ≤ maxLen
theorem laidOutS : laidOutB Tryz.prog = true := by kernel_rfl
theorem key90 : Maps.Keyed Tryz.prog 170 := Maps.Keyed.of_law (deep_law_laid laidOutS (m := 9) (by omega) (by decide +kernel) (by kernel_rfl) (by kernel_rfl))
theorem c62 : Tryz.prog.cellsOf 81 = 1 := by kernel_rfl
theorem c2 : Tryz.prog.cellsOf 2 = 1 := by kernel_rfl
theorem c9 : Tryz.prog.cellsOf 9 = 1 := by kernel_rfl
theorem c64 : Tryz.prog.cellsOf 87 = 3 := by kernel_rfl
theorem c90 : Tryz.prog.cellsOf 170 = 24 := by kernel_rfl
theorem keyL64 (d : Nat) (x : S64) (h : wfV x) : ∃ L, Tryz.prog.keyLits (d + 2) 87 (cellsV x) = some L := by
 obtain ⟨h0, h1, h2⟩ := h
 have e : Tryz.prog.keyLits (d + 2) 87 (cellsV x) = some [.int .u8 x.f0, .int .i64 x.f1, .string x.f2.data.toList] := by
  simp [Program.keyLits, Tryz.underlying87, Tryz.underlying81, Tryz.underlying2, Tryz.underlying9, cellsV, c62, c2, c9, c64, h0, h1, h2]
 exact ⟨_, e⟩
theorem mapM_some {α β : Type} (f : α → Option β) : ∀ l : List α, (∀ x ∈ l, ∃ y, f x = some y) → ∃ r, l.mapM f = some r
 | [], _ => ⟨[], rfl⟩
 | x :: l, h => by
  obtain ⟨y, hy⟩ := h x (by simp)
  obtain ⟨r, hr⟩ := mapM_some f l (fun z hz => h z (by simp [hz]))
  exact ⟨y :: r, by simp [List.mapM_cons, hy, hr]⟩
theorem tup_part (t : List S64) (i : Nat) (hi : i < t.length) : ((tupC t).drop (i * 3)).take 3 = cellsV t[i] := by
 apply List.ext_getElem?
 intro j
 rw [List.getElem?_take]
 by_cases hj : j < 3
 ·rw [if_pos hj, List.getElem?_drop, show i * 3 + j = 3 * i + j by omega, tupC_at t i j hj, List.getElem?_eq_getElem hi]; rfl
 ·rw [if_neg hj]
  have : (cellsV t[i]).length = 3 := rfl
  rw [List.getElem?_eq_none (by omega)]
theorem key_tup (t : List S64) (h8 : t.length = 8) (hw : ∀ x ∈ t, wfV x) : ∃ l, keyOf Tryz.prog 170 (.agg (tupC t).toArray) = some l := by
 obtain ⟨d, hd⟩ : ∃ d, Tryz.prog.types.size + 1 = d + 3 := by
  have : 2 ≤ Tryz.prog.types.size := by decide +kernel
  exact ⟨Tryz.prog.types.size - 2, by omega⟩
 have h1 : ∃ L, Tryz.prog.keyLits (d + 3) 170 (tupC t) = some L := by
  obtain ⟨r, hr⟩ := mapM_some (fun i => Tryz.prog.keyLits (d + 2) 87 (((tupC t).drop (i * 3)).take 3)) (List.range 8) (fun i hi => by
   have hi8 : i < t.length := by rw [h8]; exact List.mem_range.1 hi
   simp only [tup_part t i hi8]
   exact keyL64 d _ (hw _ (List.getElem_mem hi8)))
  have hu : Tryz.prog.underlying 170 = some (.array 8 87) := Tryz.underlying170
  refine ⟨r.flatten, ?_⟩
  rw [Program.keyLits.eq_def]
  simp only [hu, tupC_len, h8, c90, c64, hr]
  rfl
 obtain ⟨L, hL⟩ := h1
 have hk : Tryz.prog.keyType 170 = true := by kernel_rfl
 have hf : (Value.agg (tupC t).toArray).formed Tryz.prog 170 = true := by
  unfold Value.formed
  simp only [Tryz.underlying170, List.size_toArray, tupC_len, h8, c90]
  rfl
 unfold keyOf
 simp only [Tryz.underlying170, hk, hf, hd, Value.cells]
 exact ⟨.string (keyBytes L), by simp [hL]⟩
end Go.Proofs.YthgfdnffnbclpaaGreatDoor.PAll
namespace Go
variable {H : Type} {enc : TypeId × Value → H}
end Go
namespace Go.Proofs.YthgfdnffnbclpaaGreatDoor
open Go.ChangeShapes Go.WideShapes Go.ChangeAt Go.RowKit
open Go.ChangeMaps (open_string shut_string)
theorem own : ownKnob Tryz.prog.godebug = none := by kernel_rfl
theorem laidOut : laidOutB Tryz.prog = true := by kernel_rfl
def lst : List (String × DataW Unit) := Rows.schemeDropsRow.laid
theorem space_tab : (Rows.laid_strings_asciiSpace : DataW Unit) = Lib.tabData .u8 Lib.asciiSpaceTab := by kernel_rfl
theorem space_at (c : Nat) (hc : c < 256) : Lib.asciiSpaceTab.getD c 0 = if c = 9 ∨ c = 10 ∨ c = 11 ∨ c = 12 ∨ c = 13 ∨ c = 32 then 1 else 0 := by
 have h : ∀ n : Fin 256, Lib.asciiSpaceTab.getD n.val 0 = if n.val = 9 ∨ n.val = 10 ∨ n.val = 11 ∨ n.val = 12 ∨ n.val = 13 ∨ n.val = 32 then 1 else 0 := by decide +kernel
 exact h ⟨c, hc⟩
theorem laidL_of {W : World} (hL : laidMetH Tryz.prog lst W) : PAll.LaidL W := by
 rw [MakeChecks.laidMetH_plain _ _ _ (by kernel_rfl)] at hL
 have h7 := Go.laidMet.tail (Go.laidMet.tail hL)
 refine ⟨?_⟩
 have h7' : laidMet Tryz.prog (("strings.asciiSpace", Lib.tabData .u8 Lib.asciiSpaceTab) :: [("unicode.CaseRanges", Rows.laid_unicode_CaseRanges), ("unicode/utf8.first", Rows.laid_unicode_utf8_first)]) W := by
  rw [← space_tab]; exact h7
 have hT := Lib.tabIs_of_head (g := 0) (t := 223) (n := 256) (e := 5) (by kernel_rfl) (by kernel_rfl) (by kernel_rfl) (by kernel_rfl) (by kernel_rfl) (by kernel_rfl) h7'
 intro c hc
 have := hT.cell (g := 0) (by kernel_rfl) c (by rw [Lib.asciiSpaceTab_length]; exact hc)
 rw [this, space_at c hc]
end Go.Proofs.YthgfdnffnbclpaaGreatDoor
namespace Go.Proofs.YthgfdnffnbclpaaGreatDoor
open Go.ChangeShapes Go.WideShapes Go.Deep Go.RowKit
open Go.Proofs.YthgfdnffnbclpaaGreatDoorW.PrintWords Go.Proofs.YthgfdnffnbclpaaGreatDoorW.PrintLast Go.Proofs.YthgfdnffnbclpaaGreatDoorW.PrintMore Go.Proofs.YthgfdnffnbclpaaGreatDoor.PAll
section
variable {H : Type} (enc : TypeId × Value → H) (w : World)
def OpK {α : Type} (d : Kd α) (t : TypeId) (ok : α → Prop) : Prop := ∀ n cs y, DataW.trod enc Tryz.prog w 0 (fun _ => true) true n t cs = some y → ∃ x, d.K w x cs ∧ ok x
variable {enc w}
theorem opk_bool {t : TypeId} (ht : Tryz.prog.underlying t = some .bool) : OpK enc w Kd.bool t (fun _ => True) := fun n cs y h => by
 obtain ⟨x, hc, _⟩ := DataW.trod_bool ht h
 exact ⟨x, hc, trivial⟩
theorem opk_string {t : TypeId} (ht : Tryz.prog.underlying t = some .string) : OpK enc w Kd.string t (fun s => s.size ≤ maxLen) := fun n cs y h => by
 obtain ⟨x, hc, _, hw⟩ := DataW.trod_string ht h
 exact ⟨x, hc, hw⟩
theorem opk_fields {e : TypeId} {fs : Array Field} (he : Tryz.prog.underlying e = some (.struct fs)) (hone : oneCellFields Tryz.prog fs = true) (hC : Tryz.prog.cellsOf e = fs.size) {n : Nat} {cs : List Value} {y : DataW H × List MemPlace}
  (h : DataW.trod enc Tryz.prog w 0 (fun _ => true) true n e cs = some y) (hcl : cs.length = fs.size) : ∀ (j : Nat) (f : Field), fs[j]? = some f → ∃ (v : Value) (m : Nat) (z : DataW H × List MemPlace), cs[j]? = some v ∧ DataW.trod enc Tryz.prog w 0 (fun _ => true) true m f.type [v] = some z := by
 obtain ⟨ys, n', hn', hy, hlen, hyl, hf⟩ := DataW.trod_struct he h
 intro j f hj
 obtain ⟨ho, hk⟩ := hone_of hone j f hj
 have hjl : j < fs.size := (Array.getElem?_eq_some_iff.1 hj).1
 have hv : cs[j]? = some (cs[j]'(by omega)) := List.getElem?_eq_getElem (by omega)
 have h1 := hf j f hj
 rw [ho, hk] at h1
 have hone' : (cs.drop j).take 1 = [cs[j]'(by omega)] := by
  rw [List.drop_eq_getElem_cons (by omega)]
  rfl
 rw [hone'] at h1
 have hys : ys[j]? = some (ys[j]'(by omega)) := List.getElem?_eq_getElem (by omega)
 exact ⟨_, _, _, hv, h1.trans hys⟩
theorem trod_len {e : TypeId} {fs : Array Field} (he : Tryz.prog.underlying e = some (.struct fs)) {n : Nat} {cs : List Value} {y : DataW H × List MemPlace} (h : DataW.trod enc Tryz.prog w 0 (fun _ => true) true n e cs = some y) : cs.length = Tryz.prog.cellsOf e := by
 obtain ⟨ys, n', hn', hy, hlen, hyl, hf⟩ := DataW.trod_struct he h
 exact hlen
end
section
variable {H : Type} {enc : TypeId × Value → H} {w : World}
theorem opk64 : OpK enc w k64 87 wfV := fun n cs y h => by
 have hl : cs.length = 3 := (trod_len Tryz.underlying87 h).trans (by kernel_rfl)
 have hf := opk_fields Tryz.underlying87 (by kernel_rfl) (by kernel_rfl) h (by rw [hl]; rfl)
 obtain ⟨v0, m0, z0, c0, t0⟩ := hf 0 _ rfl
 obtain ⟨v1, m1, z1, c1, t1⟩ := hf 1 _ rfl
 obtain ⟨v2, m2, z2, c2, t2⟩ := hf 2 _ rfl
 obtain ⟨x0, e0, _, g0⟩ := DataW.trod_int (t := 81) Tryz.underlying81 t0
 obtain ⟨x1, e1, _, g1⟩ := DataW.trod_int (t := 2) Tryz.underlying2 t1
 obtain ⟨x2, e2, _, g2⟩ := DataW.trod_string (t := 9) Tryz.underlying9 t2
 match cs, hl, c0, c1, c2 with
 | [a, b, c], _, c0, c1, c2 =>
  simp at c0 c1 c2 e0 e1 e2
  subst c0 c1 c2 e0 e1 e2
  exact ⟨⟨x0, x1, x2⟩, k64_mk w _, g0, g1, g2⟩
def okRow (row : List S64) : Prop := row.length ≤ maxLen ∧ ∀ x ∈ row, wfV x
end
end Go.Proofs.YthgfdnffnbclpaaGreatDoor
namespace Go.Proofs.YthgfdnffnbclpaaGreatDoor.PAll
theorem sort_one : ∀ (a b : List Int), a.Perm b → a.Pairwise (· ≤ ·) → b.Pairwise (· ≤ ·) → a = b
 | [], b, hp, _, _ => (List.Perm.nil_eq hp)
 | x :: a, [], hp, _, _ => by have := hp.length_eq; simp at this
 | x :: a, y :: b, hp, ha, hb => by
  have h1 : x ∈ y :: b := hp.mem_iff.1 List.mem_cons_self
  have h2 : y ∈ x :: a := hp.mem_iff.2 List.mem_cons_self
  rw [List.pairwise_cons] at ha hb
  have e : x = y := by
   rcases List.mem_cons.1 h1 with e | h1
   ·exact e
   ·rcases List.mem_cons.1 h2 with e | h2
    ·exact e.symm
    ·have := hb.1 x h1; have := ha.1 y h2; omega
  subst e
  rw [sort_one a b (List.Perm.cons_inv hp) ha.2 hb.2]
def exch (cur : List Int) (i j : Nat) : List Int := (cur.set i (cur.getD j 0)).set j (cur.getD i 0)
theorem exch_at (cur : List Int) (i j k : Nat) (hk : k < cur.length) : (exch cur i j).getD k 0 = if k = j then cur.getD i 0 else if k = i then cur.getD j 0 else cur.getD k 0 := by
 unfold exch
 rw [List.getD_eq_getElem?_getD, List.getElem?_set]
 by_cases e : j = k
 ·subst e; simp [hk]
 ·rw [if_neg e, if_neg (fun h => e h.symm), List.getElem?_set]
  by_cases e2 : i = k
  ·subst e2; simp [hk]
  ·rw [if_neg e2, if_neg (fun h => e2 h.symm), List.getD_eq_getElem?_getD]
theorem exch_perm (cur : List Int) (i j : Nat) (hi : i < cur.length) (hj : j < cur.length) : (exch cur i j).Perm cur := by
 unfold exch
 rw [List.getD_eq_getElem?_getD, List.getD_eq_getElem?_getD, List.getElem?_eq_getElem hi, List.getElem?_eq_getElem hj]
 exact List.set_set_perm hi hj
end Go.Proofs.YthgfdnffnbclpaaGreatDoor.PAll
namespace Go.Proofs.YthgfdnffnbclpaaGreatDoor.PAll
open Go.RowKit Go.Proofs.YthgfdnffnbclpaaGreatDoorW.PrintWords Go.Proofs.YthgfdnffnbclpaaGreatDoorW.PrintLast Go.Proofs.YthgfdnffnbclpaaGreatDoorW.PrintMore
def memP {α : Type} [DecidableEq α] (x : α) (S : List α) : Bool := S.any fun y => decide (y = x)
theorem memP_iff {α : Type} [DecidableEq α] (x : α) (S : List α) : memP x S = true ↔ x ∈ S := by
 unfold memP
 rw [List.any_eq_true]
 constructor
 ·rintro ⟨y, hy, h⟩
  rw [of_decide_eq_true h] at hy
  exact hy
 ·exact fun h => ⟨x, h, decide_eq_true rfl⟩
def distP {α : Type} [DecidableEq α] : List α → List α → Bool
 | _, [] => true
 | S, x :: r => if memP x S = true then false else distP (x :: S) r
theorem run_makeMapN {P : Program} {t k e : TypeId} (ht : P.underlying t = some (.map k e)) (n : Int) (w : World) : (Instr.makeMap t (some (.int .i64 n))).run P w = .ok (.map (some w.heap.size)) (w.alloc (.map #[] 0)) := by
 simp [Instr.makeMap, run_underlying ht, Result.andThen]
 rfl
theorem zero4 (w : World) : (zeroValue 4).run Tryz.prog w = .ok (.bool false) w := by kernel_rfl
set_option maxRecDepth 100000 in
theorem distinct_walk_string (A : Option Addr) (c : Nat) (l : List ByteArray) (w : World) (hC : Kd.C Kd.string w A l.length l) (hc : l.length ≤ c) (hs : ∀ s ∈ l, s.size ≤ 9223372036854775807) :
  Calls Tryz.prog 64 #[.slice A l.length c] w fun e w' => e = .returned (.bool (distP [] l)) ∧ Below w.heap.size w w' := by
 have hmm := fun n w => @run_makeMapN Tryz.prog 157 9 4 Tryz.underlying157 n w
 have HC := Aside0.mk hC
 have HLEN := Aside0.mk hC.2.1
 have HS := Aside0.mk hs
 obtain ⟨B, hBd⟩ : ∃ B, B = w.heap.size := ⟨_, rfl⟩
 have HBD := Aside0.mk hBd
 clear hC hs
 go_enter Tryz.func64, Tryz.ntmps64
 go_wp2
 have hset : SetM Tryz.prog 9 boolR (w.alloc (Obj.map #[] 0)) B [] := by rw [hBd]; exact SetM.made w
 have hbel : Below w.heap.size w (w.alloc (Obj.map #[] 0)) := (Below.refl _ _).alloc (Nat.le_refl _) _
 have hsz1 : B + 1 ≤ (w.alloc (Obj.map #[] 0)).heap.size := by simp [hBd]
 generalize (w.alloc (Obj.map #[] 0)) = W1 at *
 rw [← hBd]
 have HBL := Aside0.mk hbel
 have HS1 := Aside0.mk hsz1
 have HST := Aside0.mk hset
 clear hbel hsz1 hset hBd
 go_loopg [11] l.length (fun gk v11 wx => ∃ (i : Nat) (S : List ByteArray), i + gk = l.length ∧ v11 = .int .i64 i ∧ Aside0 (S.length = i) ∧ Aside0 (SetM Tryz.prog 9 boolR wx B (S.map Value.string)) ∧ Aside0 (Below w.heap.size w wx) ∧ Aside0 (B + 1 ≤ wx.heap.size) ∧ Aside0 (distP [] l = distP S (l.drop i)))
 case atStart => exact ⟨0, [], by omega, rfl, ⟨rfl⟩, HST, HBL, HS1, ⟨by simp⟩⟩
 case round =>
  obtain ⟨i, S, hi, rfl, HSL, HM, HW, HSZ, HD⟩ := hrel
  cases gk with
  | zero =>
   have e : l.drop i = [] := List.drop_eq_nil_of_le (by omega)
   have hD := HD.out
   rw [e] at hD
   have hii : ¬ (i : Int) < (l.length : Int) := by omega
   go_wp2
   go_ret
   exact ⟨by first | rfl | (rw [hD]; rfl), HW.out⟩
  | succ gk =>
   have hlt : i < l.length := by omega
   have hii : (i : Int) < (l.length : Int) := by omega
   have hi0 : (0 : Int) ≤ (i : Int) := by omega
   have hdr : l.drop i = l[i] :: l.drop (i + 1) := List.drop_eq_getElem_cons hlt
   have hrd : rdOf ByteArray.empty l (i : Int) = l[i] := by unfold rdOf; simp [List.getD, hlt]
   obtain ⟨ad, hA, hx0⟩ := Kd.at_string HC.out (i : Int) hi0 hii
   cases hA
   rw [hrd, Int.toNat_natCast] at hx0
   have hr0 := (HW.out.cell (World.block_lt_of_cell? w _ hx0)).trans hx0
   have hD := HD.out
   rw [hdr, distP] at hD
   have hsx := HS.out l[i] (List.getElem_mem hlt)
   generalize hx : l[i] = x at *
   have hkey : keyOf Tryz.prog 9 (.string x) = some (.string x.data.toList) := WideMaps.keyOf_string_mk Tryz.underlying9 hsx
   have hmem : (Value.string x ∈ S.map Value.string) ↔ x ∈ S := by simp
   have hlook : (Instr.lookup 157 (.map (some B)) (.string x) false).run Tryz.prog wr = .ok (.bool (memP x S)) wr :=
    HM.out.look_bool (Maps.string_keyed Tryz.underlying9) Tryz.underlying157 (zero4 _) hkey _ (by rw [hmem]; exact memP_iff x S)
   by_cases hin : memP x S = true
   ·rw [if_pos hin] at hD
    rw [hin] at hlook
    go_wp2_with (at_lookup; refine wpList_look_run _ rfl _ _ _ _ rfl rfl rfl hlook ?_)
    go_ret
    exact ⟨by first | rfl | (rw [hD]; rfl), HW.out⟩
   ·rw [if_neg hin] at hD
    rw [Bool.not_eq_true] at hin
    rw [hin] at hlook
    obtain ⟨w', hrun, hset', hturn⟩ := HM.out.store (Maps.string_keyed Tryz.underlying9) Tryz.underlying157 (by rw [List.length_map, HSL.out]; have := HLEN.out; show i < 9223372036854775807; omega) (val := .bool true) (d := .lit (.bool true)) (ps := []) hkey rfl
    have hg := hturn.grown
    have hbel' : Below w.heap.size w w' := HW.out.grown hg HW.out.size (fun j hj => by cases hj; rw [← HBD.out]; exact Nat.le_refl _)
    have hsz' : B + 1 ≤ w'.heap.size := by have := hg.size; have := HSZ.out; omega
    go_wp2_with (first | (at_lookup; refine wpList_look_run _ rfl _ _ _ _ rfl rfl rfl hlook ?_) | (at_mapUpdate; refine wpList_store_run _ rfl _ _ _ _ rfl rfl rfl rfl hrun ?_))
    go_roundg gk
    case measure => omega
    case rel => exact ⟨i + 1, x :: S, by omega, by first | rfl | (simp; done) | (have := HLEN.out; simp; unfold wrap64; omega), ⟨by rw [List.length_cons, HSL.out]⟩, ⟨by simpa using hset'⟩, ⟨hbel'⟩, ⟨hsz'⟩, ⟨hD⟩⟩
set_option maxRecDepth 100000 in
theorem distinct_walk_int (A : Option Addr) (c : Nat) (l : List Int) (w : World) (hC : Kd.C (Kd.int .i64) w A l.length l) (hc : l.length ≤ c) (hs : ∀ s ∈ l, (Lit.int .i64 s).wf = true) :
  Calls Tryz.prog 116 #[.slice A l.length c] w fun e w' => e = .returned (.bool (distP [] l)) ∧ Below w.heap.size w w' := by
 have hmm := fun n w => @run_makeMapN Tryz.prog 207 3 4 Tryz.underlying207 n w
 have HC := Aside0.mk hC
 have HLEN := Aside0.mk hC.2.1
 have HS := Aside0.mk hs
 obtain ⟨B, hBd⟩ : ∃ B, B = w.heap.size := ⟨_, rfl⟩
 have HBD := Aside0.mk hBd
 clear hC hs
 go_enter Tryz.func116, Tryz.ntmps116
 go_wp2
 have hset : SetM Tryz.prog 3 boolR (w.alloc (Obj.map #[] 0)) B [] := by rw [hBd]; exact SetM.made w
 have hbel : Below w.heap.size w (w.alloc (Obj.map #[] 0)) := (Below.refl _ _).alloc (Nat.le_refl _) _
 have hsz1 : B + 1 ≤ (w.alloc (Obj.map #[] 0)).heap.size := by simp [hBd]
 generalize (w.alloc (Obj.map #[] 0)) = W1 at *
 rw [← hBd]
 have HBL := Aside0.mk hbel
 have HS1 := Aside0.mk hsz1
 have HST := Aside0.mk hset
 clear hbel hsz1 hset hBd
 go_loopg [11] l.length (fun gk v11 wx => ∃ (i : Nat) (S : List Int), i + gk = l.length ∧ v11 = .int .i64 i ∧ Aside0 (S.length = i) ∧ Aside0 (SetM Tryz.prog 3 boolR wx B (S.map (Value.int .i64))) ∧ Aside0 (Below w.heap.size w wx) ∧ Aside0 (B + 1 ≤ wx.heap.size) ∧ Aside0 (distP [] l = distP S (l.drop i)))
 case atStart => exact ⟨0, [], by omega, rfl, ⟨rfl⟩, HST, HBL, HS1, ⟨by simp⟩⟩
 case round =>
  obtain ⟨i, S, hi, rfl, HSL, HM, HW, HSZ, HD⟩ := hrel
  cases gk with
  | zero =>
   have e : l.drop i = [] := List.drop_eq_nil_of_le (by omega)
   have hD := HD.out
   rw [e] at hD
   have hii : ¬ (i : Int) < (l.length : Int) := by omega
   go_wp2
   go_ret
   exact ⟨by first | rfl | (rw [hD]; rfl), HW.out⟩
  | succ gk =>
   have hlt : i < l.length := by omega
   have hii : (i : Int) < (l.length : Int) := by omega
   have hi0 : (0 : Int) ≤ (i : Int) := by omega
   have hdr : l.drop i = l[i] :: l.drop (i + 1) := List.drop_eq_getElem_cons hlt
   have hrd : rd l (i : Int) = l[i] := by unfold rd; simp [List.getD, hlt]
   obtain ⟨ad, hA, hx0⟩ := Kd.at_int HC.out (i : Int) hi0 hii
   cases hA
   rw [hrd, Int.toNat_natCast] at hx0
   have hr0 := (HW.out.cell (World.block_lt_of_cell? w _ hx0)).trans hx0
   have hD := HD.out
   rw [hdr, distP] at hD
   have hsx := HS.out l[i] (List.getElem_mem hlt)
   generalize hx : l[i] = x at *
   have hkey : keyOf Tryz.prog 3 (.int .i64 x) = some (.int .i64 x) := Maps.keyOf_int_mk Tryz.underlying3 hsx
   have hmem : ((Value.int .i64) x ∈ S.map (Value.int .i64)) ↔ x ∈ S := by simp
   have hlook : (Instr.lookup 207 (.map (some B)) (.int .i64 x) false).run Tryz.prog wr = .ok (.bool (memP x S)) wr :=
    HM.out.look_bool (Maps.int_keyed Tryz.underlying3) Tryz.underlying207 (zero4 _) hkey _ (by rw [hmem]; exact memP_iff x S)
   by_cases hin : memP x S = true
   ·rw [if_pos hin] at hD
    rw [hin] at hlook
    go_wp2_with (at_lookup; refine wpList_look_run _ rfl _ _ _ _ rfl rfl rfl hlook ?_)
    go_ret
    exact ⟨by first | rfl | (rw [hD]; rfl), HW.out⟩
   ·rw [if_neg hin] at hD
    rw [Bool.not_eq_true] at hin
    rw [hin] at hlook
    obtain ⟨w', hrun, hset', hturn⟩ := HM.out.store (Maps.int_keyed Tryz.underlying3) Tryz.underlying207 (by rw [List.length_map, HSL.out]; have := HLEN.out; show i < 9223372036854775807; omega) (val := .bool true) (d := .lit (.bool true)) (ps := []) hkey rfl
    have hg := hturn.grown
    have hbel' : Below w.heap.size w w' := HW.out.grown hg HW.out.size (fun j hj => by cases hj; rw [← HBD.out]; exact Nat.le_refl _)
    have hsz' : B + 1 ≤ w'.heap.size := by have := hg.size; have := HSZ.out; omega
    go_wp2_with (first | (at_lookup; refine wpList_look_run _ rfl _ _ _ _ rfl rfl rfl hlook ?_) | (at_mapUpdate; refine wpList_store_run _ rfl _ _ _ _ rfl rfl rfl rfl hrun ?_))
    go_roundg gk
    case measure => omega
    case rel => exact ⟨i + 1, x :: S, by omega, by first | rfl | (simp; done) | (have := HLEN.out; simp; unfold wrap64; omega), ⟨by rw [List.length_cons, HSL.out]⟩, ⟨by simpa using hset'⟩, ⟨hbel'⟩, ⟨hsz'⟩, ⟨hD⟩⟩
instance : DecidableEq S64 := fun x y => decidable_of_iff (x.f0 = y.f0 ∧ x.f1 = y.f1 ∧ x.f2 = y.f2)
 ⟨fun ⟨a, b, c⟩ => by cases x; cases y; cases a; cases b; cases c; rfl, fun h => by cases h; exact ⟨rfl, rfl, rfl⟩⟩
def tupV (t : List S64) : Value := .agg (tupC t).toArray
theorem cellsV_inj {x y : S64} (h : cellsV x = cellsV y) : x = y := by
 unfold cellsV at h
 cases x; cases y
 simp at h
 obtain ⟨rfl, rfl, rfl⟩ := h
 rfl
theorem tupC_inj : ∀ {s t : List S64}, tupC s = tupC t → s = t
 | [], [], _ => rfl
 | [], y :: t, h => by have := congrArg List.length h; rw [tupC_len, tupC_len] at this; simp at this
 | x :: s, [], h => by have := congrArg List.length h; rw [tupC_len, tupC_len] at this; simp at this
 | x :: s, y :: t, h => by
  have e : ∀ (z : S64) (u : List S64), tupC (z :: u) = cellsV z ++ tupC u := fun z u => by simp [tupC]
  rw [e, e] at h
  obtain ⟨h1, h2⟩ := List.append_inj h rfl
  rw [cellsV_inj h1, tupC_inj h2]
theorem mem_tupV (t : List S64) (S : List (List S64)) : tupV t ∈ S.map tupV ↔ t ∈ S := by
 constructor
 ·intro h
  obtain ⟨u, hu, e⟩ := List.mem_map.1 h
  unfold tupV at e
  have : tupC u = tupC t := by simpa using e
  rw [← tupC_inj this]; exact hu
 ·exact fun h => List.mem_map_of_mem h
def keyRowsP (key : List Int) : List (List S64) → List (List S64) → Option Bool
 | [], _ => some true
 | row :: r, S => (pickP row 0 key tup0).bind fun x => if (x.2 && memP x.1 S) = true then some false else keyRowsP key r (if x.2 = true then x.1 :: S else S)
def keysP (rows : List (List S64)) : List (List Int) → Option Bool
 | [] => some true
 | k :: r => (keyRowsP k rows []).bind fun b => if b = true then keysP rows r else some false
theorem pickP_len : ∀ (cols : List Int) (row : List S64) (i : Nat) (t u : List S64) (b : Bool), pickP row i cols t = some (u, b) → u.length = t.length
 | [], _, _, _, _, _, h => by simp [pickP] at h; rw [h.1]
 | c :: r, row, i, t, u, b, h => by
  rw [pickP] at h
  split at h
  ·split at h
   ·simp at h; rw [← h.1]; simp
   ·rw [pickP_len r row _ _ u b h]; simp
  ·cases h
theorem pickP_wf : ∀ (cols : List Int) (row : List S64) (i : Nat) (t u : List S64) (b : Bool), pickP row i cols t = some (u, b) → (∀ x ∈ row, wfV x) → (∀ x ∈ t, wfV x) → ∀ x ∈ u, wfV x
 | [], _, _, _, _, _, h, _, ht => by simp [pickP] at h; rw [← h.1]; exact ht
 | c :: r, row, i, t, u, b, h, hr, ht => by
  rw [pickP] at h
  split at h
  ·rename_i hc
   have hm : rd_T64 row c ∈ row := by
    unfold rd_T64
    have : c.toNat < row.length := by omega
    rw [List.getD_eq_getElem?_getD, List.getElem?_eq_getElem this]
    exact List.getElem_mem this
   have hset : ∀ x ∈ t.set i (rd_T64 row c), wfV x := by
    intro x hx
    rcases List.mem_or_eq_of_mem_set hx with h1 | h1
    ·exact ht x h1
    ·rw [h1]; exact hr _ hm
   split at h
   ·simp at h; rw [← h.1]; exact hset
   ·exact pickP_wf r row _ _ u b h hr hset
  ·cases h
theorem tup0_wf : ∀ x ∈ tup0, wfV x := by
 intro x hx
 unfold tup0 at hx
 rw [List.eq_of_mem_replicate hx]
 exact ⟨by decide, by decide, by decide⟩
def zObj : Obj := .cells #[Value.int IntKind.u8 0, Value.int IntKind.i64 0, Value.string ⟨#[]⟩, Value.int IntKind.u8 0, Value.int IntKind.i64 0, Value.string ⟨#[]⟩, Value.int IntKind.u8 0, Value.int IntKind.i64 0, Value.string ⟨#[]⟩, Value.int IntKind.u8 0, Value.int IntKind.i64 0, Value.string ⟨#[]⟩, Value.int IntKind.u8 0, Value.int IntKind.i64 0, Value.string ⟨#[]⟩, Value.int IntKind.u8 0, Value.int IntKind.i64 0, Value.string ⟨#[]⟩, Value.int IntKind.u8 0, Value.int IntKind.i64 0, Value.string ⟨#[]⟩, Value.int IntKind.u8 0, Value.int IntKind.i64 0, Value.string ⟨#[]⟩] 170
theorem zObj_TB (w1 : World) : TB (w1.alloc zObj) w1.heap.size tup0 := by
 refine ⟨World.rowIs_alloc w1 (tupC tup0).toArray 170 _ (fun j hj => ?_), rfl⟩
 unfold tupF
 have : j < (tupC tup0).length := by simpa using hj
 rw [List.getElem?_toArray, List.getElem?_eq_getElem this]
 rfl
theorem TB.put {w : World} {B : Nat} {t u : List S64} (h : TB w B t) (h8 : u.length = 8) : TB (w.setCells B 0 (tupC u)) B u := by
 refine ⟨(Go.rowIs_setCells (tupC u) 0 w _ h.1).congr (fun j hj => ?_), h8⟩
 have hl := tupC_len u
 rw [if_pos (by omega)]
 rfl
def tupW (w1 : World) (t : List S64) : World := (w1.alloc zObj).setCells w1.heap.size 0 (tupC t)
theorem tupW_TB (w1 : World) (t : List S64) (h8 : t.length = 8) : TB (tupW w1 t) w1.heap.size t := (zObj_TB w1).put h8
theorem tupW_heap (w1 : World) (t : List S64) (b : Nat) (hb : b < w1.heap.size) : (tupW w1 t).heap[b]? = w1.heap[b]? := by
 unfold tupW
 rw [World.heap_setCells_other _ _ _ _ (by simp; omega) (by omega)]
 exact Go.Deep.blk_alloc_lt _ _ _ hb
theorem tupW_below {B0 : Nat} {w0 w1 : World} (t : List S64) (h : Below B0 w0 w1) (hB : B0 ≤ w1.heap.size) : Below B0 w0 (tupW w1 t) :=
 Go.below_setCells hB _ _ _ (h.alloc hB _)
theorem zero93 (w : World) : (zeroValue 173).run Tryz.prog w = .ok (.agg #[]) w := by kernel_rfl
set_option maxHeartbeats 4000000 in
set_option maxRecDepth 100000 in
theorem keysHold_walk (a0 : ByteArray) (A1 : Option Addr) (c1 n1 : Nat) (A2 : Option Addr) (c2 : Nat) (keys : List (List Int)) (A3 : Option Addr) (c3 n3 : Nat) (A4 : Option Addr) (c4 n4 : Nat) (A : Option Addr) (c : Nat) (rows : List (List S64)) (r : Bool) (w : World)
  (hK : Kd.C (Kd.slice 3 (Kd.int .i64)) w A2 keys.length keys) (hk2 : keys.length ≤ c2) (hR : Kd.C (Kd.slice 87 k64) w A rows.length rows) (hrc : rows.length ≤ c) (hwf : ∀ row ∈ rows, ∀ x ∈ row, wfV x) (h : keysP rows keys = some r) :
  Calls Tryz.prog 72 #[.agg #[.string a0, .slice A1 n1 c1, .slice A2 keys.length c2, .slice A3 n3 c3, .slice A4 n4 c4], .slice A rows.length c] w fun e w' => e = .returned (.bool r) ∧ Below w.heap.size w w' := by
 have hmm := @run_makeMap Tryz.prog
 have HK := Aside0.mk hK
 have HRW := Aside0.mk hR
 have HWF := Aside0.mk hwf
 have HH := Aside0.mk h
 clear hK hR hwf h
 go_enter Tryz.func72, Tryz.ntmps72
 go_wp2
 generalize hW1 : (w.alloc _) = W1
 have HBL : Aside0 (Below w.heap.size w W1) := ⟨by rw [← hW1]; exact (Below.refl _ _).alloc (Nat.le_refl _) _⟩
 clear hW1
 go_loopg [17] keys.length (fun gk v17 wx => ∃ (i : Nat), i + gk = keys.length ∧ v17 = .int .i64 i ∧ Aside0 (Below w.heap.size w wx) ∧ Aside0 (keysP rows (keys.drop i) = some r))
 case atStart => exact ⟨0, by omega, rfl, HBL, HH⟩
 case round =>
  clear HBL HH
  obtain ⟨i, hi, rfl, HW, HP⟩ := hrel
  cases gk with
  | zero =>
   have e : keys.drop i = [] := List.drop_eq_nil_of_le (by omega)
   have hp := HP.out
   rw [e] at hp
   simp only [keysP, Option.some.injEq] at hp
   subst hp
   have hii : ¬ (i : Int) < (keys.length : Int) := by omega
   go_wp2
   go_ret
   exact ⟨by first | rfl | (simp; done), HW.out⟩
  | succ g1 =>
   have hlt : i < keys.length := by omega
   have hii : (i : Int) < (keys.length : Int) := by omega
   have hi0 : (0 : Int) ≤ (i : Int) := by omega
   have hdr : keys.drop i = keys[i] :: keys.drop (i + 1) := List.drop_eq_getElem_cons hlt
   have hrd : rd_L6 keys (i : Int) = keys[i] := by unfold rd_L6; simp [List.getD, hlt]
   obtain ⟨ad2, Ak, ck, hA2, hx2, hck, hCk⟩ := at_L6 HK.out (i : Int) hi0 hii
   cases hA2
   rw [hrd] at hx2 hck hCk
   rw [Int.toNat_natCast] at hx2
   have hr2 := (HW.out.cell (World.block_lt_of_cell? w _ hx2)).trans hx2
   have hp := HP.out
   rw [hdr, keysP] at hp
   have HP2 := Aside0.mk hp
   clear hp HP
   have HCK := Aside0.mk hCk
   clear hCk hx2
   generalize keys[i] = key at *
   go_wp2
   obtain ⟨Bm, hBm⟩ : ∃ b, b = wr.heap.size := ⟨_, rfl⟩
   obtain ⟨W2, hW2⟩ : ∃ W, W = wr.alloc (Obj.map #[] 0) := ⟨_, rfl⟩
   have HS0 : Aside0 (SetM Tryz.prog 170 unitElem W2 Bm []) := ⟨by rw [hW2, hBm]; exact SetM.made wr⟩
   have HB0 : Aside0 (Below w.heap.size w W2) := ⟨by rw [hW2]; exact HW.out.alloc HW.out.size _⟩
   have HZ0 : Aside0 (Bm + 1 ≤ W2.heap.size) := ⟨by rw [hW2, hBm]; simp⟩
   have HBW : Aside0 (w.heap.size ≤ Bm) := ⟨by rw [hBm]; exact HW.out.size⟩
   rw [← hW2, ← hBm]
   clear hBm hW2
   go_loopg [24] rows.length (fun gj v24 wx => ∃ (j : Nat) (S : List (List S64)), j + gj = rows.length ∧ v24 = .int .i64 j ∧ Aside0 (S.length ≤ j) ∧ Aside0 (SetM Tryz.prog 170 unitElem wx Bm (S.map tupV)) ∧ Aside0 (Below w.heap.size w wx) ∧ Aside0 (Bm + 1 ≤ wx.heap.size) ∧
    Aside0 ((keyRowsP key (rows.drop j) S).bind (fun b => if b = true then keysP rows (keys.drop (i + 1)) else some false) = some r))
   case atStart => exact ⟨0, [], by omega, rfl, ⟨Nat.le_refl _⟩, HS0, HB0, HZ0, HP2⟩
   case round =>
    clear HS0 HB0 HZ0 HP2 HW
    obtain ⟨j, S, hj, rfl, HSL, HM, HW, HSZ, HP⟩ := hrel
    cases gk with
    | zero =>
     have e : rows.drop j = [] := List.drop_eq_nil_of_le (by omega)
     have hp := HP.out
     rw [e] at hp
     simp only [keyRowsP, Option.bind_some, if_true] at hp
     have hjj : ¬ (j : Int) < (rows.length : Int) := by omega
     go_wp2
     go_roundg g1
     case measure => omega
     case rel => exact ⟨i + 1, by omega, by first | rfl | (simp; done) | (have := HK.out.2.1; simp; unfold wrap64; omega), HW, ⟨hp⟩⟩
    | succ g2 =>
     have hjlt : j < rows.length := by omega
     have hjj : (j : Int) < (rows.length : Int) := by omega
     have hj0 : (0 : Int) ≤ (j : Int) := by omega
     have hdrj : rows.drop j = rows[j] :: rows.drop (j + 1) := List.drop_eq_getElem_cons hjlt
     have hrdj : rd_L12 rows (j : Int) = rows[j] := by unfold rd_L12; simp [List.getD, hjlt]
     obtain ⟨adr, Ar, cr, hAr, hxr, hcr, hCr⟩ := at_L12 HRW.out (j : Int) hj0 hjj
     cases hAr
     rw [hrdj] at hxr hcr hCr
     rw [Int.toNat_natCast] at hxr
     have hr3 := (HW.out.cell (World.block_lt_of_cell? w _ hxr)).trans hxr
     have hwr := HWF.out rows[j] (List.getElem_mem hjlt)
     have hp := HP.out
     rw [hdrj, keyRowsP] at hp
     generalize rows[j] = row at *
     cases hpk : pickP row 0 key tup0 with
     | none => rw [hpk] at hp; simp at hp
     | some x =>
      obtain ⟨t, full⟩ := x
      rw [hpk] at hp
      simp only [Option.bind_some] at hp
      have h8 : t.length = 8 := by rw [pickP_len _ _ _ _ _ _ hpk]; rfl
      have hwt := pickP_wf _ _ _ _ _ _ hpk hwr tup0_wf
      obtain ⟨kl, hkey⟩ := key_tup t h8 hwt
      have hkey' : keyOf Tryz.prog 170 (tupV t) = some kl := hkey
      have HPK := Aside0.mk (pick_walk Ar cr row Ak ck key t full wr (Kd.C_below hCr HW.out) hcr (Kd.C_below HCK.out HW.out) hck hpk)
      have HCR := Aside0.mk hCr
      clear hCr hxr hwr hwt hpk
      have hz : (Tryz.prog.info? 170).map (·.size) = some (tupC t).length := by rw [tupC_len, h8]; kernel_rfl
      have hza : (Tryz.prog.info? 170).map (·.size) = some (tupC t).toArray.size := by rw [List.size_toArray]; exact hz
      have hone : (tupC t).toArray.all (·.oneCell') = true := tupC_one t
      have hth : ∀ w1 : World, (w1.alloc zObj).there w1.heap.size 0 (tupC t).toArray.size := fun w1 => (zObj_TB w1).there 0 _ (by rw [List.size_toArray, tupC_len, h8]; omega)
      have hBm : Bm < wr.heap.size := by have := HSZ.out; omega
      have FW : ∀ w1, Below wr.heap.size wr w1 → TB (tupW w1 t) w1.heap.size t ∧ SetM Tryz.prog 170 unitElem (tupW w1 t) Bm (S.map tupV) ∧ Below w.heap.size w (tupW w1 t) ∧ Bm + 1 ≤ (tupW w1 t).heap.size := by
       intro w1 hb1
       have hs1 := hb1.size
       have hbw : Below w.heap.size w w1 := below_step HW.out hb1
       refine ⟨tupW_TB w1 t h8, HM.out.kept ?_, tupW_below t hbw hbw.size, ?_⟩
       ·rw [tupW_heap w1 t Bm (by omega)]
        exact hb1.block Bm hBm
       ·have := (tupW_TB w1 t h8).1.lt
        omega
      have FL : ∀ W5, SetM Tryz.prog 170 unitElem W5 Bm (S.map tupV) → (Instr.lookup 168 (.map (some Bm)) (tupV t) true).run Tryz.prog W5 = .ok (.tuple #[.agg #[], .bool (memP t S)]) W5 := fun W5 h5 =>
       h5.look_unit key90 Tryz.underlying168 (zero93 _) hkey' _ (by rw [mem_tupV]; exact memP_iff t S)
      have FS : ∀ W6, SetM Tryz.prog 170 unitElem W6 Bm (S.map tupV) → Below w.heap.size w W6 → Bm + 1 ≤ W6.heap.size → ∃ w7, (Instr.mapUpdate 168 (.map (some Bm)) (tupV t) (.agg #[])).run Tryz.prog W6 = .ok () w7 ∧ SetM Tryz.prog 170 unitElem w7 Bm ((t :: S).map tupV) ∧ Below w.heap.size w w7 ∧ Bm + 1 ≤ w7.heap.size := by
       intro W6 h6 hb6 hs6
       obtain ⟨w7, hrun, hset, hturn⟩ := h6.store key90 Tryz.underlying168 (by rw [List.length_map]; have := HSL.out; have := HRW.out.2.1; show S.length < 9223372036854775807; omega) (val := .agg #[]) hkey' unitElem_mk
       have hg := hturn.grown
       exact ⟨w7, hrun, hset, hb6.grown hg hb6.size (fun k hk => by cases hk; exact HBW.out), by have := hg.size; omega⟩
      cases full with
      | true =>
       cases hm : memP t S with
       | true =>
        rw [hm] at hp FL
        simp only [Bool.and_self, if_true, Option.bind_some] at hp
        rw [if_neg (by decide)] at hp
        obtain rfl := Option.some.inj hp
        go_wp2_with (first
         | (go_at_call 125; refine HPK.out.mono ?_; rintro e w1 ⟨rfl, hb1⟩; obtain ⟨F1, F2, F3, F4⟩ := FW w1 hb1; have hth1 := hth w1)
         | (refine wpList_store_mid rfl 170 (.tmp 10) _ rfl w1.heap.size 0 (tupC t).toArray rfl rfl hth1 hza hone ?_; change wpList _ _ _ _ _ (tupW w1 t); have F0 := FL _ F2; clear hth1 hb1; generalize tupW w1 t = W5 at *; generalize w1.heap.size = Bt at *)
         | (refine wpList_load_mid rfl 170 (.tmp 10) rfl Bt 0 rfl (tupC t) _ F1.range Tryz.underlying170 rfl hz ?_)
         | (at_lookup; refine wpList_look_run _ rfl _ _ _ _ rfl rfl rfl F0 ?_))
        go_ret
        exact ⟨by first | rfl | (simp; done), F3.alloc F3.size _⟩
       | false =>
        rw [hm] at hp FL
        simp only [Bool.and_false, if_true] at hp
        rw [if_neg (by decide)] at hp
        have HP3 := Aside0.mk hp
        clear hp
        go_wp2_with (first
         | (go_at_call 125; refine HPK.out.mono ?_; rintro e w1 ⟨rfl, hb1⟩; obtain ⟨F1, F2, F3, F4⟩ := FW w1 hb1; have hth1 := hth w1)
         | (refine wpList_store_mid rfl 170 (.tmp 10) _ rfl w1.heap.size 0 (tupC t).toArray rfl rfl hth1 hza hone ?_; change wpList _ _ _ _ _ (tupW w1 t); have F0 := FL _ F2; clear hth1 hb1; generalize tupW w1 t = W5 at *; generalize w1.heap.size = Bt at *)
         | (refine wpList_load_mid rfl 170 (.tmp 10) rfl Bt 0 rfl (tupC t) _ F1.range Tryz.underlying170 rfl hz ?_)
         | (at_lookup; refine wpList_look_run _ rfl _ _ _ _ rfl rfl rfl F0 ?_)
         | (refine wpList_load_mid rfl 170 (.tmp 10) rfl Bt 0 rfl (tupC t) _ (TB.range ⟨F1.1.alloc _, F1.2⟩) Tryz.underlying170 rfl hz ?_)
         | (at_mapUpdate; obtain ⟨w7, hrun, G2, G3, G4⟩ := FS _ (F2.kept (Go.Deep.blk_alloc_lt _ _ _ (by omega))) (F3.alloc F3.size _) (by simp; omega); refine wpList_store_run _ rfl _ _ _ _ rfl rfl rfl rfl hrun ?_))
        go_roundg g2
        case measure => omega
        case rel => exact ⟨j + 1, t :: S, by omega, by first | rfl | (simp; done) | (have := HRW.out.2.1; simp; unfold wrap64; omega), ⟨by rw [List.length_cons]; have := HSL.out; omega⟩, ⟨G2⟩, ⟨G3⟩, ⟨G4⟩, HP3⟩
      | false =>
       cases hm : memP t S with
       | true =>
        rw [hm] at FL
        simp only [Bool.false_and] at hp
        rw [if_neg (by decide), if_neg (by decide)] at hp
        have HP3 := Aside0.mk hp
        clear hp
        go_wp2_with (first
         | (go_at_call 125; refine HPK.out.mono ?_; rintro e w1 ⟨rfl, hb1⟩; obtain ⟨F1, F2, F3, F4⟩ := FW w1 hb1; have hth1 := hth w1)
         | (refine wpList_store_mid rfl 170 (.tmp 10) _ rfl w1.heap.size 0 (tupC t).toArray rfl rfl hth1 hza hone ?_; change wpList _ _ _ _ _ (tupW w1 t); have F0 := FL _ F2; clear hth1 hb1; generalize tupW w1 t = W5 at *; generalize w1.heap.size = Bt at *)
         | (refine wpList_load_mid rfl 170 (.tmp 10) rfl Bt 0 rfl (tupC t) _ F1.range Tryz.underlying170 rfl hz ?_)
         | (at_lookup; refine wpList_look_run _ rfl _ _ _ _ rfl rfl rfl F0 ?_))
        go_roundg g2
        case measure => omega
        case rel => exact ⟨j + 1, S, by omega, by first | rfl | (simp; done) | (have := HRW.out.2.1; simp; unfold wrap64; omega), ⟨by have := HSL.out; omega⟩, ⟨F2.kept (Go.Deep.blk_alloc_lt _ _ _ (by omega))⟩, ⟨F3.alloc F3.size _⟩, ⟨by simp; omega⟩, HP3⟩
       | false =>
        rw [hm] at FL
        simp only [Bool.false_and] at hp
        rw [if_neg (by decide), if_neg (by decide)] at hp
        have HP3 := Aside0.mk hp
        clear hp
        go_wp2_with (first
         | (go_at_call 125; refine HPK.out.mono ?_; rintro e w1 ⟨rfl, hb1⟩; obtain ⟨F1, F2, F3, F4⟩ := FW w1 hb1; have hth1 := hth w1)
         | (refine wpList_store_mid rfl 170 (.tmp 10) _ rfl w1.heap.size 0 (tupC t).toArray rfl rfl hth1 hza hone ?_; change wpList _ _ _ _ _ (tupW w1 t); have F0 := FL _ F2; clear hth1 hb1; generalize tupW w1 t = W5 at *; generalize w1.heap.size = Bt at *)
         | (refine wpList_load_mid rfl 170 (.tmp 10) rfl Bt 0 rfl (tupC t) _ F1.range Tryz.underlying170 rfl hz ?_)
         | (at_lookup; refine wpList_look_run _ rfl _ _ _ _ rfl rfl rfl F0 ?_))
        go_roundg g2
        case measure => omega
        case rel => exact ⟨j + 1, S, by omega, by first | rfl | (simp; done) | (have := HRW.out.2.1; simp; unfold wrap64; omega), ⟨by have := HSL.out; omega⟩, ⟨F2.kept (Go.Deep.blk_alloc_lt _ _ _ (by omega))⟩, ⟨F3.alloc F3.size _⟩, ⟨by simp; omega⟩, HP3⟩
end Go.Proofs.YthgfdnffnbclpaaGreatDoor.PAll
