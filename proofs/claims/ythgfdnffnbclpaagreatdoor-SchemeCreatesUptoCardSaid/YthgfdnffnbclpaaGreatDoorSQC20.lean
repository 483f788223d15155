import Derived.Test.YthgfdnffnbclpaaGreatDoorSQC19
import Derived.RangeFuncBox
import Derived.RangeFuncLeaves
import Derived.RangeFuncWrites
import Derived.Shelf.Abstract
import Derived.WalkKit
import Derived.OwnWalkIn
import Derived.TacticsInMore
import Derived.LoopNIn
import Derived.LoopIn
import Derived.Maps.AppendAt
set_option linter.unusedVariables false
set_option linter.unusedSimpArgs false
namespace Go.Proofs.YthgfdnffnbclpaaGreatDoor.PAll
open Go.RowKit Go.Proofs.YthgfdnffnbclpaaGreatDoorW.PrintWords Go.Proofs.YthgfdnffnbclpaaGreatDoorW.PrintLast Go.Proofs.YthgfdnffnbclpaaGreatDoorW.PrintMore
def partsB (defs : List S109) (keys : List (List ByteArray)) (refs : List S105) : Bool := defs.all defB && (keys.all namesB && refs.all zea)
set_option maxHeartbeats 4000000 in
set_option maxRecDepth 100000 in
theorem zfo (A3 : Option Addr) (c3 : Nat) (defs : List S109) (A4 : Option Addr) (c4 : Nat) (keys : List (List ByteArray)) (A5 : Option Addr) (c5 : Nat) (refs : List S105) (w : World)
  (h3 : Kd.C k109 w A3 defs.length defs) (hc3 : defs.length ≤ c3) (h4 : Kd.C (Kd.slice 9 Kd.string) w A4 keys.length keys) (hc4 : keys.length ≤ c4) (h5 : Kd.C k105 w A5 refs.length refs) (hc5 : refs.length ≤ c5) :
  Calls Tryz.prog 49 #[.slice A3 defs.length c3, .slice A4 keys.length c4, .slice A5 refs.length c5] w fun e w' => e = .returned (.bool (partsB defs keys refs)) ∧ Below w.heap.size w w' := by
 have H3 := Aside0.mk h3
 have H4 := Aside0.mk h4
 have H5 := Aside0.mk h5
 have HB0 := Aside0.mk (Below.refl w.heap.size w)
 have l3 := h3.2.1
 have l4 := h4.2.1
 have l5 := h5.2.1
 clear h3 h4 h5
 unfold partsB
 go_enter Tryz.func49, Tryz.ntmps49
 go_wp2
 go_loopg [7] defs.length (fun gk v7 wx => ∃ (i : Nat), i + gk = defs.length ∧ v7 = .int .i64 i ∧ Aside0 (Below w.heap.size w wx) ∧ Aside0 (defs.all defB = (defs.drop i).all defB))
 case atStart => exact ⟨0, by omega, rfl, HB0, ⟨by simp⟩⟩
 case round =>
  clear HB0
  obtain ⟨i, hi, rfl, HW, HP⟩ := hrel
  cases gk with
  | succ gk =>
   have hlt : i < defs.length := by omega
   have hii : (i : Int) < (defs.length : Int) := by omega
   have hi0 : (0 : Int) ≤ (i : Int) := by omega
   have hrd : za0 defs (i : Int) = defs[i] := by unfold za0; simp [List.getD, hlt]
   obtain ⟨ad, hA, x0, x1, x2, x3, x4, x5⟩ := zd3 H3.out (i : Int) hi0 hii
   cases hA
   rw [hrd] at x0 x1 x2 x3 x4 x5
   rw [Int.toNat_natCast] at x0 x1 x2 x3 x4 x5
   replace x0 := (HW.out.cell (World.block_lt_of_cell? w _ x0)).trans x0
   replace x1 := (HW.out.cell (World.block_lt_of_cell? w _ x1)).trans x1
   replace x2 := (HW.out.cell (World.block_lt_of_cell? w _ x2)).trans x2
   replace x3 := (HW.out.cell (World.block_lt_of_cell? w _ x3)).trans x3
   replace x4 := (HW.out.cell (World.block_lt_of_cell? w _ x4)).trans x4
   replace x5 := (HW.out.cell (World.block_lt_of_cell? w _ x5)).trans x5
   have hp := HP.out
   rw [List.drop_eq_getElem_cons hlt, List.all_cons] at hp
   have HX := Aside0.mk (zgy defs[i] wr)
   clear hrd HP
   generalize defs[i] = x at *
   cases hn : defB x with
   | false =>
    rw [hn] at HX hp
    have HP2 : Aside0 (defs.all defB = false) := ⟨by simpa using hp⟩
    clear hp hn
    go_wp2_with (go_at_call 100; refine HX.out.mono ?_; rintro e w1 ⟨rfl, hb1⟩)
    go_ret
    exact ⟨by rw [HP2.out, Bool.false_and]; rfl, below_step HW.out hb1⟩
   | true =>
    rw [hn] at HX hp
    have HP2 : Aside0 (defs.all defB = (defs.drop (i + 1)).all defB) := ⟨by simpa using hp⟩
    clear hp hn
    go_wp2_with (go_at_call 100; refine HX.out.mono ?_; rintro e w1 ⟨rfl, hb1⟩; have HW1 := Aside0.mk (below_step HW.out hb1); clear hb1)
    go_roundg gk
    case measure => omega
    case rel => exact ⟨i + 1, by omega, by first | rfl | (simp; done) | (simp; unfold wrap64; omega), HW1, HP2⟩
  | zero =>
   have hp := HP.out
   rw [List.drop_eq_nil_of_le (by omega)] at hp
   have HD : Aside0 (defs.all defB = true) := ⟨hp⟩
   have hii : ¬ (i : Int) < (defs.length : Int) := by omega
   clear hp HP hi
   go_wp2
   go_loopg [8] keys.length (fun gk v8 wx => ∃ (i : Nat), i + gk = keys.length ∧ v8 = .int .i64 i ∧ Aside0 (Below w.heap.size w wx) ∧ Aside0 (keys.all namesB = (keys.drop i).all namesB))
   case atStart => exact ⟨0, by omega, rfl, HW, ⟨by simp⟩⟩
   case round =>
    clear HW hii
    obtain ⟨i2, hi2, rfl, HW, HP⟩ := hrel
    cases gk with
    | succ gk =>
     have hlt : i2 < keys.length := by omega
     have hii : (i2 : Int) < (keys.length : Int) := by omega
     have hi0 : (0 : Int) ≤ (i2 : Int) := by omega
     have hrd : zdr keys (i2 : Int) = keys[i2] := by simp [zdr, List.getD, hlt]
     obtain ⟨ad, Ak, ck, hA, hx0, hl0, hC0⟩ := zj0 H4.out (i2 : Int) hi0 hii
     cases hA
     rw [hrd] at hx0 hl0 hC0
     rw [Int.toNat_natCast] at hx0
     replace hx0 := (HW.out.cell (World.block_lt_of_cell? w _ hx0)).trans hx0
     have hp := HP.out
     rw [List.drop_eq_getElem_cons hlt, List.all_cons] at hp
     have HX := Aside0.mk (zbR Ak ck keys[i2] wr (Kd.C_below hC0 HW.out) hl0)
     clear hrd HP hC0
     generalize keys[i2] = x at *
     cases hn : namesB x with
     | false =>
      rw [hn] at HX hp
      have HP2 : Aside0 (keys.all namesB = false) := ⟨by simpa using hp⟩
      clear hp hn
      go_wp2_with (go_at_call 101; refine HX.out.mono ?_; rintro e w1 ⟨rfl, hb1⟩)
      go_ret
      exact ⟨by rw [HP2.out, Bool.false_and, Bool.and_false]; rfl, below_step HW.out hb1⟩
     | true =>
      rw [hn] at HX hp
      have HP2 : Aside0 (keys.all namesB = (keys.drop (i2 + 1)).all namesB) := ⟨by simpa using hp⟩
      clear hp hn
      go_wp2_with (go_at_call 101; refine HX.out.mono ?_; rintro e w1 ⟨rfl, hb1⟩; have HW1 := Aside0.mk (below_step HW.out hb1); clear hb1)
      go_roundg gk
      case measure => omega
      case rel => exact ⟨i2 + 1, by omega, by first | rfl | (simp; done) | (simp; unfold wrap64; omega), HW1, HP2⟩
    | zero =>
     have hp := HP.out
     rw [List.drop_eq_nil_of_le (by omega)] at hp
     have HK : Aside0 (keys.all namesB = true) := ⟨hp⟩
     have hii : ¬ (i2 : Int) < (keys.length : Int) := by omega
     clear hp HP hi2
     go_wp2
     go_loopg [9] refs.length (fun gk v9 wx => ∃ (i : Nat), i + gk = refs.length ∧ v9 = .int .i64 i ∧ Aside0 (Below w.heap.size w wx) ∧ Aside0 (refs.all zea = (refs.drop i).all zea))
     case atStart => exact ⟨0, by omega, rfl, HW, ⟨by simp⟩⟩
     case round =>
      clear HW hii
      obtain ⟨i3, hi3, rfl, HW, HP⟩ := hrel
      cases gk with
      | zero =>
       have hp := HP.out
       rw [List.drop_eq_nil_of_le (by omega)] at hp
       have HR : Aside0 (refs.all zea = true) := ⟨hp⟩
       have hii : ¬ (i3 : Int) < (refs.length : Int) := by omega
       clear hp HP hi3
       go_wp2
       go_ret
       exact ⟨by rw [HD.out, HK.out, HR.out]; rfl, HW.out⟩
      | succ gk =>
       have hlt : i3 < refs.length := by omega
       have hii : (i3 : Int) < (refs.length : Int) := by omega
       have hi0 : (0 : Int) ≤ (i3 : Int) := by omega
       have hrd : zaW refs (i3 : Int) = refs[i3] := by simp [zaW, List.getD, hlt]
       obtain ⟨ad, Ak, ck, Am, cm, hA, hx0, hx1, hx2, hl0, hC0, hl2, hC2⟩ := zd1 H5.out (i3 : Int) hi0 hii
       cases hA
       rw [hrd] at hx0 hx1 hx2 hl0 hC0 hl2 hC2
       rw [Int.toNat_natCast] at hx0 hx1 hx2
       have HXC : Aside0 (∀ W, Below w.heap.size w W → W.cell? (ad.add (i3 * 3)) = some (.slice Ak refs[i3].f0.length ck) ∧ W.cell? ⟨(ad.add (i3 * 3)).block, (ad.add (i3 * 3)).off + 1, none⟩ = some (.string refs[i3].f1) ∧ W.cell? ⟨(ad.add (i3 * 3)).block, (ad.add (i3 * 3)).off + 2, none⟩ = some (.slice Am refs[i3].f2.length cm)) := ⟨fun W hW => ⟨(hW.cell (World.block_lt_of_cell? w _ hx0)).trans hx0, (hW.cell (World.block_lt_of_cell? w _ hx1)).trans hx1, (hW.cell (World.block_lt_of_cell? w _ hx2)).trans hx2⟩⟩
       have hp := HP.out
       rw [List.drop_eq_getElem_cons hlt, List.all_cons] at hp
       have HX1 := Aside0.mk (fun W (hW : Below w.heap.size w W) => zbR Ak ck refs[i3].f0 W (Kd.C_below hC0 hW) hl0)
       have HX2 := Aside0.mk (fun W (hW : Below w.heap.size w W) => zbR Am cm refs[i3].f2 W (Kd.C_below hC2 hW) hl2)
       have HX3 := Aside0.mk (fun W (hW : Below w.heap.size w W) => za9 refs[i3].f1 W)
       have hrb : zea refs[i3] = (namesB refs[i3].f0 && (namesB refs[i3].f2 && nmB refs[i3].f1)) := rfl
       rw [hrb] at hp
       clear hrd HP hC0 hC2 hx0 hx1 hx2 hrb
       generalize namesB refs[i3].f0 = q1 at *
       generalize namesB refs[i3].f2 = q2 at *
       generalize nmB refs[i3].f1 = q3 at *
       generalize refs[i3] = x at *
       obtain ⟨y0, y1, y2⟩ := HXC.out _ HW.out
       have HPH := Aside0.mk hp
       clear hp
       have fin : ∀ (W : World), Aside0 (Below w.heap.size w W) → (q1 && (q2 && q3)) = false → refs.all zea = false := fun W _ h => by rw [HPH.out, h, Bool.false_and]
       have HFIN := Aside0.mk fin
       clear fin
       cases q1 with
       | false =>
        go_wp2_with (go_at_call 101; refine (HX1.out _ HW.out).mono ?_; rintro e w1 ⟨rfl, hb1⟩; have HW1 := Aside0.mk (below_step HW.out hb1); clear hb1)
        go_ret
        exact ⟨by rw [HFIN.out _ HW1 rfl, Bool.and_false, Bool.and_false]; rfl, HW1.out⟩
       | true =>
        cases q2 with
        | false =>
         go_wp2_with (first
          | (go_at_call 101; refine (HX1.out _ HW.out).mono ?_; rintro e w1 ⟨rfl, hb1⟩; have HW1 := Aside0.mk (below_step HW.out hb1); obtain ⟨z0, z1, z2⟩ := HXC.out _ HW1.out; clear hb1 HX1)
          | (go_at_call 101; refine (HX2.out _ HW1.out).mono ?_; rintro e w2 ⟨rfl, hb2⟩; have HW2 := Aside0.mk (below_step HW1.out hb2); clear hb2))
         go_ret
         exact ⟨by rw [HFIN.out _ HW2 rfl, Bool.and_false, Bool.and_false]; rfl, HW2.out⟩
        | true =>
         cases q3 with
         | false =>
          go_wp2_with (first
           | (go_at_call 101; refine (HX1.out _ HW.out).mono ?_; rintro e w1 ⟨rfl, hb1⟩; have HW1 := Aside0.mk (below_step HW.out hb1); obtain ⟨z0, z1, z2⟩ := HXC.out _ HW1.out; clear hb1 HX1)
           | (go_at_call 101; refine (HX2.out _ HW1.out).mono ?_; rintro e w2 ⟨rfl, hb2⟩; have HW2 := Aside0.mk (below_step HW1.out hb2); obtain ⟨t0, t1, t2⟩ := HXC.out _ HW2.out; clear hb2)
           | (go_at_call 48; refine (HX3.out _ HW2.out).mono ?_; rintro e w3 ⟨rfl, hb3⟩; have HW3 := Aside0.mk (below_step HW2.out hb3); clear hb3))
          go_ret
          exact ⟨by rw [HFIN.out _ HW3 rfl, Bool.and_false, Bool.and_false]; rfl, HW3.out⟩
         | true =>
          have HP2 : Aside0 (refs.all zea = (refs.drop (i3 + 1)).all zea) := ⟨by rw [HPH.out]; simp⟩
          go_wp2_with (first
           | (go_at_call 101; refine (HX1.out _ HW.out).mono ?_; rintro e w1 ⟨rfl, hb1⟩; have HW1 := Aside0.mk (below_step HW.out hb1); obtain ⟨z0, z1, z2⟩ := HXC.out _ HW1.out; clear hb1 HX1)
           | (go_at_call 101; refine (HX2.out _ HW1.out).mono ?_; rintro e w2 ⟨rfl, hb2⟩; have HW2 := Aside0.mk (below_step HW1.out hb2); obtain ⟨t0, t1, t2⟩ := HXC.out _ HW2.out; clear hb2)
           | (go_at_call 48; refine (HX3.out _ HW2.out).mono ?_; rintro e w3 ⟨rfl, hb3⟩; have HW3 := Aside0.mk (below_step HW2.out hb3); clear hb3))
          go_roundg gk
          case measure => omega
          case rel => exact ⟨i3 + 1, by omega, by first | rfl | (simp; done) | (simp; unfold wrap64; omega), HW3, HP2⟩
set_option maxHeartbeats 4000000 in
set_option maxRecDepth 100000 in
theorem zf9 (x : S109) (hk : x.f1 = 0 ∨ x.f1 = 1 ∨ x.f1 = 2 ∨ x.f1 = 3) (w : World) : Calls Tryz.prog 102 #[.agg #[.string x.f0, .int .u8 x.f1, .bool x.f2, .int .i64 x.f3, .int .i64 x.f4, .bool x.f5]] w fun e w' => e = .returned (.agg #[.string (madeC x).f0, .int .u8 (madeC x).f1, .bool (madeC x).f2, .int .i64 (madeC x).f3, .int .i64 (madeC x).f4]) ∧ Below w.heap.size w w' := by
 unfold madeC
 obtain ⟨f0, f1, f2, f3, f4, f5⟩ := x
 simp only at hk ⊢
 cases f2
 all_goals rcases hk with rfl | rfl | rfl | rfl
 all_goals
  go_enter Tryz.func102, Tryz.ntmps102
  go_wp2
  generalize hW : World.alloc _ _ = W
  obtain ⟨h0, h1, h2, hb⟩ := zjp w hW
  refine bodyPost_ret (results_cell_row rfl _ _ _ 83 _ (0, 0) _ rfl h1 Tryz.underlying83 rfl (by kernel_rfl)) rfl ?_
  exact ⟨by first | rfl | simp_all, hb⟩
theorem zhA {nm : ByteArray} {l : List S78} (h : colP nm 0 l = -1) : (colAns nm l).2 = false := by unfold colAns; rw [h]; rfl
theorem zig {nm : ByteArray} {l : List S78} (h : colP nm 0 l ≠ -1) : colAns nm l = (colP nm 0 l, true) := by
 unfold colAns
 rw [if_neg]
 rcases zch nm l 0 with e | e
 ·exact absurd e h
 ·omega
def zhP (cols : List S78) (l : List ByteArray) : List Int × Int := if -1 ∈ colsN cols l then ([], 71) else (colsN cols l, 0)
set_option maxHeartbeats 4000000 in
set_option maxRecDepth 100000 in
theorem zbo (f0 : ByteArray) (A1 : Option Addr) (c1 : Nat) (cols : List S78) (A2 : Option Addr) (n2 c2 : Nat) (A3 : Option Addr) (n3 c3 : Nat) (A4 : Option Addr) (n4 c4 : Nat) (A : Option Addr) (c : Nat) (l : List ByteArray) (w : World)
  (hC : Kd.C k78 w A1 cols.length cols) (hc1 : cols.length ≤ c1) (hN : Kd.C Kd.string w A l.length l) (hc : l.length ≤ c) (hl : l.length ≤ 2000000) :
  Calls Tryz.prog 104 #[.agg #[.string f0, .slice A1 cols.length c1, .slice A2 n2 c2, .slice A3 n3 c3, .slice A4 n4 c4], .slice A l.length c] w fun e w' => ∃ v0 : Value, e = .returned (.tuple #[v0, .int .i64 (zhP cols l).2]) ∧ (Kd.int .i64).R 3 w' w.heap.size (fun _ => True) v0 (zhP cols l).1 ∧ Below w.heap.size w w' := by
 have HN := Aside0.mk hN
 have HCL : Aside0 (∀ s W, Below w.heap.size w W → Calls Tryz.prog 90 #[.agg #[.string f0, .slice A1 cols.length c1, .slice A2 n2 c2, .slice A3 n3 c3, .slice A4 n4 c4], .string s] W fun e w' => e = .returned (.tuple #[.int .i64 (colAns s cols).1, .bool (colAns s cols).2]) ∧ Below W.heap.size W w') := ⟨fun s W hW => zec f0 A1 c1 cols A2 n2 c2 A3 n3 c3 A4 n4 c4 s W (Kd.C_below hC hW) hc1⟩
 obtain ⟨W0, hW0⟩ : ∃ W, W = w.alloc (Obj.cells #[.string f0, .slice A1 cols.length c1, .slice A2 n2 c2, .slice A3 n3 c3, .slice A4 n4 c4] 72) := ⟨_, rfl⟩
 have HB0 : Aside0 (Below w.heap.size w W0) := ⟨by rw [hW0]; exact (Below.refl _ _).alloc (Nat.le_refl _) _⟩
 have HT : Aside0 (W0.heap[w.heap.size]? = some (.cells #[.string f0, .slice A1 cols.length c1, .slice A2 n2 c2, .slice A3 n3 c3, .slice A4 n4 c4] 72 (0, 0))) := ⟨by rw [hW0]; exact Go.Deep.blk_alloc_new _ _⟩
 have HSZ : Aside0 (w.heap.size < W0.heap.size) := ⟨zah HT.out⟩
 have HNIL : Aside0 ((Kd.int .i64).R 3 W0 w.heap.size (fun k => W0.heap.size ≤ k) (.slice none 0 0) (colsN cols (l.take 0))) := ⟨Kd.R_nil _ _ _ _ _⟩
 have HBR := Aside0.mk (Below.refl W0.heap.size W0)
 clear hC hN
 go_enter Tryz.func104, Tryz.ntmps104
 go_wp2
 rw [← hW0]
 clear hW0
 go_loopg [6, 7] l.length (fun gk v6 v7 wx => ∃ (i : Nat), i + gk = l.length ∧ v7 = .int .i64 i ∧ Aside0 (Below W0.heap.size W0 wx) ∧ Aside0 ((Kd.int .i64).R 3 wx W0.heap.size (fun _ => True) v6 (colsN cols (l.take i))) ∧ Aside0 (-1 ∉ colsN cols (l.take i)))
 case atStart => exact ⟨0, by omega, rfl, HBR, ⟨Kd.R_nil _ _ _ _ _⟩, ⟨by simp [colsN]⟩⟩
 case round =>
  clear HNIL HBR
  obtain ⟨i, hi, rfl, HB, HO, HNO⟩ := hrel
  cases gk with
  | zero =>
   have hii : ¬ (i : Int) < (l.length : Int) := by omega
   have e : l.take i = l := List.take_of_length_le (by omega)
   rw [e] at HO HNO
   have HE : Aside0 (zhP cols l = (colsN cols l, 0)) := ⟨if_neg HNO.out⟩
   clear e HNO
   go_wp2
   go_ret2
   rw [HE.out]
   exact ⟨_, rfl, Kd.R_lower HO.out (Nat.le_of_lt HSZ.out), below_step HB0.out HB.out⟩
  | succ gk =>
   have hlt : i < l.length := by omega
   have hii : (i : Int) < (l.length : Int) := by omega
   have hi0 : (0 : Int) ≤ (i : Int) := by omega
   have hrd : rdOf ByteArray.empty l (i : Int) = l[i] := by unfold rdOf; simp [List.getD, hlt]
   obtain ⟨ad, hA, x0⟩ := Kd.at_string HN.out (i : Int) hi0 hii
   cases hA
   rw [hrd, Int.toNat_natCast] at x0
   have KC : ∀ W, Below W0.heap.size W0 W → W.cell? (ad.add i) = some (.string l[i]) ∧ W.cell? ⟨w.heap.size, 0, none⟩ = some (.string f0) ∧ W.cell? ⟨w.heap.size, 1, none⟩ = some (.slice A1 cols.length c1) ∧ W.cell? ⟨w.heap.size, 2, none⟩ = some (.slice A2 n2 c2) ∧ W.cell? ⟨w.heap.size, 3, none⟩ = some (.slice A3 n3 c3) ∧ W.cell? ⟨w.heap.size, 4, none⟩ = some (.slice A4 n4 c4) := fun W hW => by
    obtain ⟨z0, z1, z2, z3, z4, _⟩ := zaT ((hW.block _ (zah HT.out)).trans HT.out)
    exact ⟨((below_step HB0.out hW).cell (World.block_lt_of_cell? w _ x0)).trans x0, z0, z1, z2, z3, z4⟩
   have HKC := Aside0.mk KC
   have HCW := Aside0.mk (fun W (hW : Below W0.heap.size W0 W) => HCL.out l[i] W (below_step HB0.out hW))
   have HTK : Aside0 (colsN cols (l.take (i + 1)) = colsN cols (l.take i) ++ [colP l[i] 0 cols]) := ⟨by unfold colsN; rw [zay hlt, List.map_append]; rfl⟩
   have hlen2 : (colsN cols (l.take i)).length ≤ 2000000 := by unfold colsN; rw [List.length_map, List.length_take]; omega
   have HIN : Aside0 (colP l[i] 0 cols ∈ colsN cols l) := ⟨List.mem_map.2 ⟨l[i], List.getElem_mem hlt, rfl⟩⟩
   obtain ⟨d0, d1, d2, d3, d4, d5⟩ := KC _ (zab HB.out)
   clear hrd KC x0
   by_cases q : colP l[i] 0 cols = -1
   ·have HE : Aside0 (zhP cols l = ([], 71)) := ⟨if_pos (by rw [← q]; exact HIN.out)⟩
    have h2 := zhA q
    generalize l[i] = x at *
    generalize colAns x cols = an at *
    obtain ⟨an1, an2⟩ := an
    subst h2
    clear q HIN HTK
    go_wp2
    go_region_held3 (fun W => W.cell? (ad.add i) = some (.string x) ∧ W.cell? ⟨w.heap.size, 0, none⟩ = some (.string f0) ∧ W.cell? ⟨w.heap.size, 1, none⟩ = some (.slice A1 cols.length c1) ∧ W.cell? ⟨w.heap.size, 2, none⟩ = some (.slice A2 n2 c2) ∧ W.cell? ⟨w.heap.size, 3, none⟩ = some (.slice A3 n3 c3) ∧ W.cell? ⟨w.heap.size, 4, none⟩ = some (.slice A4 n4 c4)) (first | exact HKC.out _ (zab HB.out) | exact HKC.out _ (below_step (zab HB.out) hb1)) ((go_at_call 90; refine (HCW.out _ (zab HB.out)).mono ?_; rintro e w1 ⟨rfl, hb1⟩))
    go_wp2
    go_ret2
    rw [HE.out]
    exact ⟨_, rfl, Kd.R_nil _ _ _ _ _, below_step HB0.out (below_step (zab HB.out) hb1)⟩
   ·have h2 := zig q
    have HNO2 : Aside0 (-1 ∉ colsN cols (l.take (i + 1))) := ⟨by rw [HTK.out]; intro hm; rcases List.mem_append.1 hm with h | h; exact HNO.out h; rw [List.mem_singleton] at h; exact q h.symm⟩
    rw [h2] at HCW
    generalize l[i] = x at *
    generalize colP x 0 cols = y at *
    clear q HIN h2 HNO
    generalize colsN cols (l.take i) = pre at *
    go_wp2
    go_region_held3 (fun W => W.cell? (ad.add i) = some (.string x) ∧ W.cell? ⟨w.heap.size, 0, none⟩ = some (.string f0) ∧ W.cell? ⟨w.heap.size, 1, none⟩ = some (.slice A1 cols.length c1) ∧ W.cell? ⟨w.heap.size, 2, none⟩ = some (.slice A2 n2 c2) ∧ W.cell? ⟨w.heap.size, 3, none⟩ = some (.slice A3 n3 c3) ∧ W.cell? ⟨w.heap.size, 4, none⟩ = some (.slice A4 n4 c4)) (first | exact HKC.out _ (zab HB.out) | exact HKC.out _ (below_step (zab HB.out) hb1)) ((go_at_call 90; refine (HCW.out _ (zab HB.out)).mono ?_; rintro e w1 ⟨rfl, hb1⟩))
    have HB1 := Aside0.mk (below_step (zab HB.out) hb1)
    have HO1 := Aside0.mk (Kd.R_below (Kd.R_drew HO.out) hb1)
    clear hb1
    go_wp2_with ((with_reducible refine zam (b := .append) (xs := #[.tmp 27, .tmp 29]) rfl ?_); at_builtin; refine Kd.R_append (Kd.int .i64) (w0 := W0) W0.heap.size rfl (.tmp 27) (.tmp 29) 70 3 (.int .i64 0) 8 rfl Tryz.underlying70 zeY rfl (by decide) (by omega) u6 pre y [.int .i64 y] (fun _ => True) (fun _ => False) rfl rfl rfl (fun _ h => h.elim) (fun _ _ => trivial) HO1.out HB1.out HB1.out.size (by omega) ?_; intro v1 w2 hv1 hb2 _ _)
    go_roundg gk
    case measure => omega
    case rel => exact ⟨i + 1, by omega, by first | rfl | (simp; done) | (simp; unfold wrap64; omega), ⟨hb2⟩, ⟨by rw [HTK.out]; exact hv1⟩, HNO2⟩
def zhv (cur : List Int) (i : Nat) : Prop := ∀ a b, a < b → b < i → cur.getD a 0 ≤ cur.getD b 0
def InsI (cur : List Int) (i j : Nat) : Prop := (∀ a b, a < b → b ≤ i → a ≠ j → b ≠ j → cur.getD a 0 ≤ cur.getD b 0) ∧ (∀ b, j < b → b ≤ i → cur.getD j 0 ≤ cur.getD b 0)
theorem zhF {cur : List Int} {i : Nat} (h : zhv cur i) : InsI cur i i := ⟨fun a b h1 h2 h3 h4 => h a b h1 (by omega), fun b h1 h2 => by omega⟩
theorem zhf {cur : List Int} {i j : Nat} (h : InsI cur i j) (hj : j = 0 ∨ ¬ cur.getD j 0 < cur.getD (j - 1) 0) (hji : j ≤ i) : zhv cur (i + 1) := fun a b h1 h2 => by
 by_cases e : b = j
 ·subst e
  rcases hj with hj | hj
  ·omega
  ·by_cases e2 : a = b - 1
   ·subst e2; omega
   ·have := h.1 a (b - 1) (by omega) (by omega) (by omega) (by omega)
    omega
 ·by_cases e2 : a = j
  ·subst e2; exact h.2 b h1 (by omega)
  ·exact h.1 a b h1 (by omega) e2 e
theorem zib {cur : List Int} {i j : Nat} (h : InsI cur i (j + 1)) (hl : j + 1 < cur.length) (hi : i < cur.length) (hji : j + 1 ≤ i) (hlt : cur.getD (j + 1) 0 < cur.getD j 0) : InsI (exch cur j (j + 1)) i j := by
 refine ⟨fun a b h1 h2 h3 h4 => ?_, fun b h1 h2 => ?_⟩
 ·rw [zcc _ _ _ _ (by omega), zcc _ _ _ _ (by omega), if_neg h3, if_neg h4]
  split
  ·rename_i e; subst e
   rw [if_neg (by omega)]
   exact h.1 j b (by omega) h2 (by omega) (by omega)
  ·split
   ·rename_i e1 e2; subst e2
    have := h.1 a j (by omega) (by omega) (by omega) (by omega)
    exact this
   ·exact h.1 a b h1 h2 (by assumption) (by assumption)
 ·rw [zcc _ _ _ _ (by omega), zcc _ _ _ _ (by omega), if_neg (by omega), if_pos rfl]
  split
  ·omega
  ·rw [if_neg (by omega)]
   exact h.2 b (by omega) h2
theorem zgf {cur : List Int} {i : Nat} (h : zhv cur i) (hi : cur.length ≤ i) : cur.Pairwise (· ≤ ·) := by
 rw [List.pairwise_iff_getElem]
 intro a b ha hb hab
 have := h a b hab (by omega)
 rw [List.getD_eq_getElem?_getD, List.getD_eq_getElem?_getD, List.getElem?_eq_getElem ha, List.getElem?_eq_getElem hb] at this
 exact this
set_option maxHeartbeats 4000000 in
set_option maxRecDepth 100000 in
theorem zf1 (A : Option Addr) (cap : Nat) (l r : List Int) (base : Nat) (ok : Nat → Prop) (w : World) (hO : (Kd.int .i64).R 3 w base ok (.slice A l.length cap) l) (hl : l.length ≤ 100) (hr : r.Perm l) (hrs : r.Pairwise (· ≤ ·)) :
  Calls Tryz.prog 177 #[.slice A l.length cap, .int .i64 0, .int .i64 l.length] w fun e w' => e = .returned (.tuple #[]) ∧ (Kd.int .i64).R 3 w' base ok (.slice A l.length cap) r ∧ w.grownBy w' (Value.slice A l.length cap).ownBlock := by
 have HO1 := Aside0.mk hO
 have HG1 := Aside0.mk (zc1 w (Value.slice A l.length cap).ownBlock)
 have HRP := Aside0.mk hr
 have HRS := Aside0.mk hrs
 clear hO hr hrs
 go_enter Tryz.func177, Tryz.ntmps177
 go_wp2
 go_loopg [6] (l.length + 1) (fun gk v6 wx => ∃ (i : Nat) (cur : List Int), i + gk = l.length + 1 + 1 ∧ 1 ≤ i ∧ v6 = .int .i64 i ∧ Aside0 (cur.Perm l) ∧ Aside0 (zhv cur i) ∧ Aside0 ((Kd.int .i64).R 3 wx base ok (.slice A l.length cap) cur) ∧ Aside0 (w.grownBy wx (Value.slice A l.length cap).ownBlock))
 case atStart => exact ⟨1, l, by omega, by omega, rfl, ⟨List.Perm.refl _⟩, ⟨fun a b h1 h2 => by omega⟩, HO1, HG1⟩
 case round =>
  clear HO1 HG1
  obtain ⟨i, cur, hi, hi1, rfl, HP, HU, HO, HG⟩ := hrel
  have HCL := Aside0.mk HP.out.length_eq
  by_cases q : i < l.length
  case neg =>
   have hii : ¬ (i : Int) < (l.length : Int) := by omega
   have e : r = cur := zfc _ _ (HRP.out.trans HP.out.symm) HRS.out (zgf HU.out (by rw [HCL.out]; omega))
   have HO2 : Aside0 ((Kd.int .i64).R 3 wr base ok (.slice A l.length cap) r) := ⟨by rw [e]; exact HO.out⟩
   clear e q
   go_wp2
   go_end0
   exact ⟨rfl, HO2.out, HG.out⟩
  case pos =>
   obtain ⟨gk, rfl⟩ : ∃ m, gk = m + 1 := ⟨gk - 1, by omega⟩
   have hii : (i : Int) < (l.length : Int) := by omega
   obtain ⟨g, cap', ev, _⟩ := Kd.R_form HO.out (by rw [HCL.out]; omega)
   rw [HCL.out] at ev
   simp only [Value.slice.injEq, true_and] at ev
   obtain ⟨eA, eC⟩ := ev
   subst eA
   subst eC
   have HIN : Aside0 (InsI cur i i) := ⟨zhF HU.out⟩
   go_wp2
   clear HCL
   go_loopg [7] i (fun gj v7 wx => ∃ (j : Nat) (cur : List Int), j = gj ∧ j ≤ i ∧ v7 = .int .i64 j ∧ Aside0 (cur.Perm l) ∧ Aside0 (InsI cur i j) ∧ Aside0 ((Kd.int .i64).R 3 wx base ok (.slice (some ⟨g, 0, none⟩) l.length cap) cur) ∧ Aside0 (w.grownBy wx (Value.slice (some ⟨g, 0, none⟩) l.length cap).ownBlock))
   case atStart => exact ⟨i, cur, rfl, Nat.le_refl _, rfl, HP, HIN, HO, HG⟩
   case round =>
    clear HP HU HIN HO HG
    obtain ⟨j, cu, rfl, hji, rfl, HP, HIN, HO, HG⟩ := hrel
    have HCL := Aside0.mk HP.out.length_eq
    by_cases hz : j = 0
    case pos =>
     subst hz
     have HU2 : Aside0 (zhv cu (i + 1)) := ⟨zhf HIN.out (.inl rfl) hji⟩
     clear HIN
     have HO2 : Aside0 (∀ nq, (Kd.int .i64).R 3 (wr.drewN nq) base ok (.slice (some ⟨g, 0, none⟩) l.length cap) cu) := ⟨fun nq => Kd.R_drewN HO.out nq⟩
     have HG2 : Aside0 (∀ nq, w.grownBy (wr.drewN nq) (Value.slice (some ⟨g, 0, none⟩) l.length cap).ownBlock) := ⟨fun nq => zae HG.out (zao (zaa (Below.refl _ _) nq) _)⟩
     clear HO HG
     go_wp2
     go_quiet (fail)
     go_wp2
     have HO3 := Aside0.mk (HO2.out nq)
     have HG3 := Aside0.mk (HG2.out nq)
     go_roundg gk
     case measure => omega
     case rel => exact ⟨i + 1, cu, by omega, by omega, by first | rfl | (simp; done) | (simp; unfold wrap64; omega), HP, HU2, HO3, HG3⟩
    case neg =>
     obtain ⟨p, hp⟩ : ∃ p, p + 1 = j := ⟨j - 1, by omega⟩
     have hjl : j < cu.length := by rw [HCL.out]; omega
     have hil : i < cu.length := by rw [HCL.out]; omega
     have hj0 : 0 < j := by omega
     have d0 : decide (0 < j) = true := decide_eq_true hj0
     have hjn : (j : Int) < (l.length : Int) := by omega
     have hw : (j : Int) - 1 = (p : Int) := by omega
     obtain ⟨xj, fj, _⟩ := zdB HO.out j hjl
     obtain ⟨xi, fi, hsi⟩ := zdB HO.out p (by omega)
     have hpl : p < cu.length := by omega
     have hpn : (p : Int) < (l.length : Int) := by omega
     have hwp : IntKind.i64.wrap (p : Int) = (p : Int) := by rw [IntKind.wrap_i64]; omega
     by_cases q2 : cu.getD j 0 < cu.getD p 0
     ·have d1 : decide (cu.getD j 0 < cu.getD p 0) = true := decide_eq_true q2
      have HO2 : Aside0 (∀ n2, (Kd.int .i64).R 3 (((wr.drew.drewN n2).setCell ⟨g, j, none⟩ (.int .i64 (cu.getD p 0))).setCell ⟨g, p, none⟩ (.int .i64 (cu.getD j 0))) base ok (.slice (some ⟨g, 0, none⟩) l.length cap) (exch cu p j)) := ⟨fun n2 => by
       have h3 := (zdB (Kd.R_drewN (Kd.R_drew HO.out) n2) j hjl).2.2 (cu.getD p 0)
       have h4 := (zdB h3 p (by rw [List.length_set]; exact hpl)).2.2 (cu.getD j 0)
       have e : (cu.set j (cu.getD p 0)).set p (cu.getD j 0) = exch cu p j := by unfold exch; rw [List.set_comm _ _ (by omega)]
       rw [e] at h4; exact h4⟩
      have HG2 : Aside0 (∀ n2, w.grownBy (((wr.drew.drewN n2).setCell ⟨g, j, none⟩ (.int .i64 (cu.getD p 0))).setCell ⟨g, p, none⟩ (.int .i64 (cu.getD j 0))) (Value.slice (some ⟨g, 0, none⟩) l.length cap).ownBlock) := ⟨fun n2 => zae (zae (zae (zae HG.out (zco _ _)) (zao (zaa (Below.refl _ _) n2) _)) (zaz _ g j _)) (zaz _ g p _)⟩
      have HP2 : Aside0 ((exch cu p j).Perm l) := ⟨(zfu cu p j hpl hjl).trans HP.out⟩
      have HI2 : Aside0 (InsI (exch cu p j) i p) := ⟨by subst hp; exact zib HIN.out hjl hil (by omega) q2⟩
      clear q2 HP HIN HO HG HCL hsi
      generalize cu.getD j 0 = yj at *
      generalize cu.getD p 0 = yi at *
      generalize exch cu p j = cu2 at *
      go_wp2
      have KS : wr.drew.cell? ⟨g, j, none⟩ = some (.int .i64 yj) ∧ wr.drew.cell? ⟨g, p, none⟩ = some (.int .i64 yi) := ⟨xj, xi⟩
      go_region_held3 (fun W => W.cell? ⟨g, j, none⟩ = some (.int .i64 yj) ∧ W.cell? ⟨g, p, none⟩ = some (.int .i64 yi)) (exact KS) ((go_at_call 92; refine (zfS _ _ _).mono ?_; rintro e w' ⟨rfl, rfl⟩))
      go_wp2
      have KT : (wr.drew.drewN 1).cell? ⟨g, j, none⟩ = some (.int .i64 yj) ∧ (wr.drew.drewN 1).cell? ⟨g, p, none⟩ = some (.int .i64 yi) := ⟨xj, xi⟩
      refine zbI (n := 18) (S := fun W => W.cell? ⟨g, j, none⟩ = some (.int .i64 yj) ∧ W.cell? ⟨g, p, none⟩ = some (.int .i64 yi)) (ds := [15, 17]) #[false, false, false, false, false, false, false, false, false, false, false, false, false, false, false, false, false, false] (by kernel_rfl) rfl rfl KT (fun hHeld => ?_)
      refine zau (i := 0) (N := some 33) (v := ?_) (a' := ?_) #[true, false, false, false, false, false, false, false, false, false, false, false, false, false, false, false, false, false] rfl rfl (by kernel_rfl) (fun _ _ _ h => h) (Or.inl ⟨by rfl, ?_⟩) ?_ ?_
      rotate_left
      ·intro w'; go_simp; with_reducible rfl
      rotate_left
      ·simp only [Act.put, List.setIfInBounds_toArray, List.set_cons_zero, List.set_cons_succ, zaj, zak]; rfl
      refine zau (i := 1) (N := some 34) (v := ?_) (a' := ?_) #[true, true, false, false, false, false, false, false, false, false, false, false, false, false, false, false, false, false] rfl rfl (by kernel_rfl) (fun _ _ _ h => h) (Or.inl ⟨by rfl, ?_⟩) ?_ ?_
      rotate_left
      ·intro w'; go_simp; with_reducible rfl
      rotate_left
      ·simp only [Act.put, List.setIfInBounds_toArray, List.set_cons_zero, List.set_cons_succ, zaj, zak]; rfl
      refine zau (i := 2) (N := some 35) (v := ?_) (a' := ?_) #[true, true, true, false, false, false, false, false, false, false, false, false, false, false, false, false, false, false] rfl rfl (by kernel_rfl) (fun _ _ _ h => h) (Or.inl ⟨by rfl, ?_⟩) ?_ ?_
      rotate_left
      ·intro w'; go_simp; with_reducible rfl
      rotate_left
      ·simp only [Act.put, List.setIfInBounds_toArray, List.set_cons_zero, List.set_cons_succ, zaj, zak]; rfl
      refine zau (i := 3) (N := some 36) (v := ?_) (a' := ?_) #[true, true, true, true, false, false, false, false, false, false, false, false, false, false, false, false, false, false] rfl rfl (by kernel_rfl) (fun _ _ _ h => h) (Or.inl ⟨by rfl, ?_⟩) ?_ ?_
      rotate_left
      ·intro w'; go_simp; with_reducible rfl
      rotate_left
      ·simp only [Act.put, List.setIfInBounds_toArray, List.set_cons_zero, List.set_cons_succ, zaj, zak]; rfl
      refine zau (i := 4) (N := some 37) (v := ?_) (a' := ?_) #[true, true, true, true, true, false, false, false, false, false, false, false, false, false, false, false, false, false] rfl rfl (by kernel_rfl) (fun _ _ _ h => h) (Or.inl ⟨by rfl, ?_⟩) ?_ ?_
      rotate_left
      ·intro w'; go_simp; with_reducible rfl
      rotate_left
      ·simp only [Act.put, List.setIfInBounds_toArray, List.set_cons_zero, List.set_cons_succ, zaj, zak]; rfl
      refine zau (i := 5) (N := some 38) (v := ?_) (a' := ?_) #[true, true, true, true, true, true, false, false, false, false, false, false, false, false, false, false, false, false] rfl rfl (by kernel_rfl) (fun _ _ _ h => h) (Or.inl ⟨by rfl, ?_⟩) ?_ ?_
      rotate_left
      ·intro w'; go_simp; with_reducible rfl
      rotate_left
      ·simp only [Act.put, List.setIfInBounds_toArray, List.set_cons_zero, List.set_cons_succ, zaj, zak]; rfl
      refine zau (i := 6) (N := some 39) (v := ?_) (a' := ?_) #[true, true, true, true, true, true, true, false, false, false, false, false, false, false, false, false, false, false] rfl rfl (by kernel_rfl) (fun _ _ _ h => h) (Or.inl ⟨by rfl, ?_⟩) ?_ ?_
      rotate_left
      ·intro w'; go_simp; with_reducible rfl
      rotate_left
      ·simp only [Act.put, List.setIfInBounds_toArray, List.set_cons_zero, List.set_cons_succ, zaj, zak]; rfl
      refine zau (i := 7) (N := some 40) (v := ?_) (a' := ?_) #[true, true, true, true, true, true, true, true, false, false, false, false, false, false, false, false, false, false] rfl rfl (by kernel_rfl) (fun _ _ _ h => h) (Or.inl ⟨by rfl, ?_⟩) ?_ ?_
      rotate_left
      ·intro w'; go_simp; with_reducible rfl
      rotate_left
      ·simp only [Act.put, List.setIfInBounds_toArray, List.set_cons_zero, List.set_cons_succ, zaj, zak]; rfl
      refine zau (i := 8) (N := some 41) (v := ?_) (a' := ?_) #[true, true, true, true, true, true, true, true, true, false, false, false, false, false, false, false, false, false] rfl rfl (by kernel_rfl) (fun _ _ _ h => h) (Or.inl ⟨by rfl, ?_⟩) ?_ ?_
      rotate_left
      ·intro w'; go_simp; with_reducible rfl
      rotate_left
      ·simp only [Act.put, List.setIfInBounds_toArray, List.set_cons_zero, List.set_cons_succ, zaj, zak]; rfl
      refine take_ (i := 9) (N := some 42) (v := ?_) (a' := ?_) #[true, true, true, true, true, true, true, true, true, true, false, false, false, false, false, false, false, false] rfl rfl (by kernel_rfl) (fun _ _ _ h => h) (Or.inl ⟨by rfl, ?_⟩) hHeld ?_ ?_
      rotate_left
      ·rintro w' ⟨s0, s1⟩; go_simp; with_reducible rfl
      rotate_left
      ·simp only [Act.put, List.setIfInBounds_toArray, List.set_cons_zero, List.set_cons_succ, zaj, zak]; rfl
      refine zau (i := 10) (N := some 43) (v := ?_) (a' := ?_) #[true, true, true, true, true, true, true, true, true, true, true, false, false, false, false, false, false, false] rfl rfl (by kernel_rfl) (fun _ _ _ h => h) (Or.inl ⟨by rfl, ?_⟩) ?_ ?_
      rotate_left
      ·intro w'; go_simp; with_reducible rfl
      rotate_left
      ·simp only [Act.put, List.setIfInBounds_toArray, List.set_cons_zero, List.set_cons_succ, zaj, zak]; rfl
      refine zau (i := 11) (N := some 44) (v := ?_) (a' := ?_) #[true, true, true, true, true, true, true, true, true, true, true, true, false, false, false, false, false, false] rfl rfl (by kernel_rfl) (fun _ _ _ h => h) (Or.inl ⟨by rfl, ?_⟩) ?_ ?_
      rotate_left
      ·intro w'; go_simp; with_reducible rfl
      rotate_left
      ·simp only [Act.put, List.setIfInBounds_toArray, List.set_cons_zero, List.set_cons_succ, zaj, zak]; rfl
      refine zau (i := 12) (N := some 45) (v := ?_) (a' := ?_) #[true, true, true, true, true, true, true, true, true, true, true, true, true, false, false, false, false, false] rfl rfl (by kernel_rfl) (fun _ _ _ h => h) (Or.inl ⟨by rfl, ?_⟩) ?_ ?_
      rotate_left
      ·intro w'; go_simp; with_reducible rfl
      rotate_left
      ·simp only [Act.put, List.setIfInBounds_toArray, List.set_cons_zero, List.set_cons_succ, zaj, zak]; rfl
      refine take_ (i := 13) (N := some 46) (v := ?_) (a' := ?_) #[true, true, true, true, true, true, true, true, true, true, true, true, true, true, false, false, false, false] rfl rfl (by kernel_rfl) (fun _ _ _ h => h) (Or.inl ⟨by rfl, ?_⟩) hHeld ?_ ?_
      rotate_left
      ·rintro w' ⟨s0, s1⟩; go_simp; with_reducible rfl
      rotate_left
      ·simp only [Act.put, List.setIfInBounds_toArray, List.set_cons_zero, List.set_cons_succ, zaj, zak]; rfl
      refine zau (i := 14) (N := some 47) (v := ?_) (a' := ?_) #[true, true, true, true, true, true, true, true, true, true, true, true, true, true, true, false, false, false] rfl rfl (by kernel_rfl) (fun _ _ _ h => h) (Or.inl ⟨by rfl, ?_⟩) ?_ ?_
      rotate_left
      ·intro w'; go_simp; with_reducible rfl
      rotate_left
      ·simp only [Act.put, List.setIfInBounds_toArray, List.set_cons_zero, List.set_cons_succ, zaj, zak]; rfl
      refine zfh (i := 15) (N := none) #[true, true, true, true, true, true, true, true, true, true, true, true, true, true, true, true, false, false] rfl rfl (by kernel_rfl) (by decide) (fun K hK => ?_)
      have hne : p ≠ j := by omega
      have hne2 : j ≠ p := by omega
      obtain ⟨y0, y1⟩ := hHeld
      refine zhW (w1 := ?_) (by rfl) rfl ?_ ?_
      rotate_left
      ·go_simp
       rfl
      refine hK.out _ _ ?_
      clear hK K
      refine zau (i := 16) (N := some 48) (v := ?_) (a' := ?_) #[true, true, true, true, true, true, true, true, true, true, true, true, true, true, true, true, true, false] rfl rfl (by kernel_rfl) (fun _ _ _ h => h) (Or.inl ⟨by rfl, ?_⟩) ?_ ?_
      rotate_left
      ·intro w'; go_simp; with_reducible rfl
      rotate_left
      ·simp only [Act.put, List.setIfInBounds_toArray, List.set_cons_zero, List.set_cons_succ, zaj, zak]; rfl
      refine zfh (i := 17) (N := none) #[true, true, true, true, true, true, true, true, true, true, true, true, true, true, true, true, true, true] rfl rfl (by kernel_rfl) (by decide) (fun K hK => ?_)
      refine zhW (w1 := ?_) (by rfl) rfl ?_ ?_
      rotate_left
      ·go_simp
       rfl
      refine hK.out _ _ ?_
      clear hK K
      refine zc8 (by kernel_rfl) ?_
      have HO3 := Aside0.mk (HO2.out 1)
      have HG3 := Aside0.mk (HG2.out 1)
      clear HO2 HG2 y0 y1 KT KS xj xi fj fi
      go_wp2
      go_roundg p
      case measure => omega
      case rel => exact ⟨p, cu2, rfl, by omega, by first | rfl | (simp; done) | (simp; omega), HP2, HI2, HO3, HG3⟩
     ·have d1 : decide (cu.getD j 0 < cu.getD p 0) = false := decide_eq_false q2
      have HU2 : Aside0 (zhv cu (i + 1)) := ⟨zhf HIN.out (.inr (by rw [show j - 1 = p by omega]; exact q2)) hji⟩
      have HO2 : Aside0 (∀ nq, (Kd.int .i64).R 3 (wr.drew.drewN nq) base ok (.slice (some ⟨g, 0, none⟩) l.length cap) cu) := ⟨fun nq => Kd.R_drewN (Kd.R_drew HO.out) nq⟩
      have HG2 : Aside0 (∀ nq, w.grownBy (wr.drew.drewN nq) (Value.slice (some ⟨g, 0, none⟩) l.length cap).ownBlock) := ⟨fun nq => zae (zae HG.out (zco _ _)) (zao (zaa (Below.refl _ _) nq) _)⟩
      clear q2 HIN HO HG HCL hsi
      generalize cu.getD j 0 = yj at *
      generalize cu.getD p 0 = yi at *
      go_wp2
      have KS : wr.drew.cell? ⟨g, j, none⟩ = some (.int .i64 yj) ∧ wr.drew.cell? ⟨g, p, none⟩ = some (.int .i64 yi) := ⟨xj, xi⟩
      go_region_held3 (fun W => W.cell? ⟨g, j, none⟩ = some (.int .i64 yj) ∧ W.cell? ⟨g, p, none⟩ = some (.int .i64 yi)) (exact KS) ((go_at_call 92; refine (zfS _ _ _).mono ?_; rintro e w' ⟨rfl, rfl⟩))
      go_wp2
      have HO3 := Aside0.mk (HO2.out 0)
      have HG3 := Aside0.mk (HG2.out 0)
      go_roundg gk
      case measure => omega
      case rel => exact ⟨i + 1, cu, by omega, by omega, by first | rfl | (simp; done) | (simp; unfold wrap64; omega), HP, HU2, HO3, HG3⟩
end Go.Proofs.YthgfdnffnbclpaaGreatDoor.PAll
namespace Go.Proofs.YthgfdnffnbclpaaGreatDoor.PAll
open Go.RowKit Go.Shelf Go.Proofs.YthgfdnffnbclpaaGreatDoorW.PrintWords Go.Proofs.YthgfdnffnbclpaaGreatDoorW.PrintLast Go.Proofs.YthgfdnffnbclpaaGreatDoorW.PrintMore
attribute [local go_sem] Oper.semAt_some
set_option maxRecDepth 100000 in
set_option maxHeartbeats 2000000 in
theorem zh0 (F : Fence) (n : Nat) (h7 : F.fn 158) (hro : F.round = none) (hn : 1 ≤ n) (l Bs n₀ b off cap : Nat) (zs : List Int) (hreach : zs.length ≤ 100) (hb : b < n₀) (J Jx : List Int → World → Prop)
  (hY : ∀ pre x W, J pre W → pre.length < zs.length → YieldAt F (n - 1) Tryz.prog l #[.int .i64 x] W fun e W' =>
   (e = .returned (.bool true) ∧ J (pre ++ [x]) W' ∧ Below n₀ W W') ∨ (e = .returned (.bool false) ∧ Jx (pre ++ [x]) W'))
  (W : World) (hBs : W.cell? ⟨Bs, 0, none⟩ = some (.slice (some ⟨b, off, none⟩) zs.length cap)) (hBn : Bs < n₀) (hc : ∀ j, j < zs.length → W.cell? ⟨b, off + j, none⟩ = some (.int .i64 (zs[j]?.getD 0))) (h0 : J [] W) :
  CallsIn F n Tryz.prog 158 #[.func (.yield l) #[] #[], .pointer (some ⟨Bs, 0, none⟩)] W fun e W' => (∃ v, e = .returned v) ∧
   ((∃ ys, ys = zs ∧ J ys W') ∨ (∃ pre, pre <+: zs ∧ Jx pre W')) := by
 refine callsIn_of_wp Tryz.func158 rfl h7 ?_ hro
 simp only [Tryz.ntmps158, List.size_toArray, List.length_cons, List.length_nil, Nat.reduceAdd, Nat.reduceSub, Array.replicate_succ, Array.replicate_zero, List.push_toArray, List.append_toArray, List.nil_append, List.cons_append]
 gi_wp2
 gi_loopw [7] (fun i wr => ∃ k : Nat, k ≤ zs.length ∧ i = .int .i64 k ∧ J (zs.take k) wr ∧ Below n₀ W wr)
  (fun i _ => zs.length - (intOf i).toNat)
 case atStart => exact ⟨0, Nat.zero_le _, rfl, by simpa using h0, Below.refl _ _⟩
 case round =>
  obtain ⟨k, hk, rfl, hJs, hnx⟩ := hrel
  have hcx : k < zs.length → wr.cell? ⟨b, off + k, none⟩ = some (.int .i64 (zs[k]?.getD 0)) := fun h => (hnx.cell (p := ⟨b, off + k, none⟩) hb).trans (hc k h)
  by_cases hlt : k < zs.length
  ·have htk : zs.take (k + 1) = zs.take k ++ [zs[k]?.getD 0] := by rw [zay hlt]; simp [hlt]
   have hcx' := hcx hlt
   clear hcx hc
   generalize zs[k]?.getD 0 = y at *
   obtain ⟨fn, tmps, assign, body, hy, hR⟩ := hY _ y wr hJs (by rw [List.length_take]; omega)
   rw [← htk] at hR
   clear htk
   gi_wp2
   refine hR.mono ?_
   rintro e W3 (⟨rfl, hJ3, hk3⟩ | ⟨rfl, hJx3⟩)
   ·gi_wp2
    go_roundw
    case rel => exact ⟨k + 1, by omega, by simp, hJ3, hnx.trans hk3⟩
    case measure => simp [intOf]; omega
   ·gi_wp2
    refine bodyPost_ret (results_none rfl _ _ _) rfl ?_
    exact ⟨⟨_, rfl⟩, .inr ⟨_, List.take_prefix _ _, hJx3⟩⟩
  ·obtain rfl : k = zs.length := by omega
   rw [List.take_length] at hJs
   gi_wp2
   go_end0
   exact ⟨⟨_, rfl⟩, .inl ⟨_, rfl, hJs⟩⟩
set_option maxRecDepth 100000 in
set_option maxHeartbeats 1000000 in
theorem zed (F : Fence) (n : Nat) (h7 : F.fn 158) (hro : F.round = none) (l Bs c : Nat) (J : List Int → World → Prop) (W : World) (hBs : W.cell? ⟨Bs, 0, none⟩ = some (.slice none 0 c)) (h0 : J [] W) :
  CallsIn F n Tryz.prog 158 #[.func (.yield l) #[] #[], .pointer (some ⟨Bs, 0, none⟩)] W fun e W' => (∃ v, e = .returned v) ∧ J [] W' := by
 refine callsIn_of_wp Tryz.func158 rfl h7 ?_ hro
 simp only [Tryz.ntmps158, List.size_toArray, List.length_cons, List.length_nil, Nat.reduceAdd, Nat.reduceSub, Array.replicate_succ, Array.replicate_zero, List.push_toArray, List.append_toArray, List.nil_append, List.cons_append]
 gi_wp2
 gi_loopw [7] (fun i wr => i = .int .i64 0 ∧ J [] wr) (fun _ _ => 0)
 case atStart => exact ⟨rfl, h0⟩
 case round =>
  obtain ⟨rfl, hJs⟩ := hrel
  gi_wp2
  go_end0
  exact ⟨⟨_, rfl⟩, hJs⟩
def IntsAt (n₀ : Nat) (W : World) (sv : Value) (zs : List Int) : Prop :=
 (∃ c, sv = .slice none 0 c ∧ zs = []) ∨ ∃ b off cap, sv = .slice (some ⟨b, off, none⟩) zs.length cap ∧ b < n₀ ∧ ∀ j, j < zs.length → W.cell? ⟨b, off + j, none⟩ = some (.int .i64 (zs[j]?.getD 0))
theorem IntsAt.below {n₀ : Nat} {A B : World} (h : Below n₀ A B) {sv : Value} {zs : List Int} : IntsAt n₀ A sv zs → IntsAt n₀ B sv zs
 | .inl e => .inl e
 | .inr ⟨b, off, cap, e, hb, hc⟩ => .inr ⟨b, off, cap, e, hb, fun j hj => (h.cell (p := ⟨b, off + j, none⟩) hb).trans (hc j hj)⟩
theorem zfw (F : Fence) (n : Nat) (h7 : F.fn 158) (hro : F.round = none) (hn : 1 ≤ n) (Bs n₀ : Nat) (sv : Value) (zs : List Int) (hreach : zs.length ≤ 100) (w : World) (hBs : Bs < n₀) (hn₀ : n₀ ≤ w.heap.size)
  (hc : w.cell? ⟨Bs, 0, none⟩ = some sv) (hI : IntsAt n₀ w sv zs) :
  SeqStopsK F n Tryz.prog 158 #[.pointer (some ⟨Bs, 0, none⟩)] (fun x : Int => #[Value.int .i64 x]) (Below n₀) (fun ys => ys = zs) (fun pre => pre <+: zs) zs.length w := fun l J Jx W hW _ _ hY h0 => by
 have hc' := (hW.cell (p := ⟨Bs, 0, none⟩) (by show Bs < w.heap.size; omega)).trans hc
 rcases hI.below (hW.mono hn₀) with ⟨c, rfl, rfl⟩ | ⟨b, off, cap, rfl, hb, hcs⟩
 ·exact (zed F n h7 hro l Bs c J W hc' h0).mono fun e W' ⟨he, hj⟩ => ⟨he, .inl ⟨_, rfl, hj⟩⟩
 ·exact zh0 F n h7 hro hn l Bs n₀ b off cap zs hreach hb J Jx hY W hc' hBs hcs h0
theorem zkg : (Tryz.prog.info? 3).map (fun i => (i.zero, i.size, i.bytes)) = some (some (.int .i64 0), 1, 8) := by kernel_rfl
set_option maxRecDepth 100000 in
set_option maxHeartbeats 2000000 in
theorem zef (Bs : Nat) (sv : Value) (zs : List Int) (hreach : zs.length ≤ 100) (w : World) (hBs : Bs < w.heap.size) (hcs : w.cell? ⟨Bs, 0, none⟩ = some sv) (hI : IntsAt w.heap.size w sv zs) :
  Calls Tryz.prog 187 #[.slice none 0 0, .func (.func 158) #[] #[.pointer (some ⟨Bs, 0, none⟩)]] w fun e W' => ∃ v, e = .returned v ∧ W'.ownsRow w.heap.size 3 1 v zs.length (zs.map (Value.int .i64)) ∧ Below w.heap.size w W' := by
 obtain ⟨i0, hi, hz0, hz1, hz2⟩ := info_parts zkg
 refine (callsIn_wide (n := 6)).1 ?_
 refine callsIn_of_wp_marks Tryz.func187 rfl trivial ?_ rfl
 simp only [Tryz.ntmps187, List.size_toArray, List.length_cons, List.length_nil, Nat.reduceAdd, Nat.reduceSub, Array.replicate_succ, Array.replicate_zero, List.push_toArray, List.append_toArray, List.nil_append, List.cons_append]
 gi_wp2
 have bO := Boxed.new w 70 (.slice none 0 0)
 have hB0 : Below w.heap.size w (w.alloc (.cells #[.slice none 0 0] 70)) := (Below.refl _ w).alloc (Nat.le_refl _) _
 refine wpIn_rangeFunc_ownG rfl (by omega) (gf := 158) (lb := #[.pointer (some ⟨Bs, 0, none⟩)]) rfl trivial (enters_of Tryz.func158 (by kernel_rfl) rfl)
  (zfw Fence.wide (6 - 1) trivial rfl (by omega) Bs w.heap.size sv zs hreach _ hBs (by simp) ((hB0.cell (p := ⟨Bs, 0, none⟩) hBs).trans hcs) (hI.below hB0)) belowK_t (belowK_b (by simp)) (Below.refl _ _) (fun _ => rfl)
  (fun pre W => (∃ v, Boxed W w.heap.size 70 v ∧ W.ownsRow w.heap.size 3 1 v pre.length (pre.map (Value.int .i64)) ∧ True) ∧ Below w.heap.size w W)
  (fun _ _ _ => False)
  (OwnFrom.and (Own.from (holdsRow_own w.heap.size w.heap.size 70 3 1 (fun pre : List Int => pre.length) (fun pre => pre.map (Value.int .i64)) (fun _ _ => True)) _) (ownFrom_below (Nat.le_refl _) (by simp)))
  (fun _ _ _ _ _ hs _ _ => hs)
  ⟨⟨_, bO, World.ownsRow_nil _ _ _ _, trivial⟩, hB0⟩
  (fun x => { tmps := #[.slice none 0 0, .func (.func 158) #[] #[.pointer (some ⟨Bs, 0, none⟩)], .pointer (some ⟨w.heap.size, 0, none⟩), undef, .slice none 0 0, .int .i64 x, .func (.func 158) #[] #[.pointer (some ⟨Bs, 0, none⟩)], .int .i64 x, undef, undef, undef, undef, undef], defers := [] }) ?assign ?body ?done ?stop
 case assign =>
  intro l x W K hK
  gi_wp2
  exact hK
 case body =>
  rintro l pre x W ⟨⟨v, hv, hrow, _⟩, hB⟩ hlt
  have hc := hv.cell
  gi_wp2_with (gi_at_builtin; refine wpListIn_append_own _ rfl _ _ 70 rfl w.heap.size 3 i0 (.int .i64 0) 1 8 Tryz.underlying70 hi hz0 hz1 hz2 rfl (by decide) _ _ _ rfl (hrow.alloc _) ⟨W.heap.size, 0, none⟩ 1 1 [.int .i64 x] rfl rfl (cell_one_new _ _ _) (by simp [Value.oneCell']) (by unfold maxLen; omega) (by omega) (by have := hB.size; simp; omega) ?_; intro v' w1 hown' hgrow _; obtain ⟨g', cap', rfl⟩ := ownsRow_succ hown'; obtain ⟨hv1, hv2, hr2, hk2, hb2⟩ := hv.appended (by decide) hrow hB.size (Nat.le_refl _) hown' hgrow; have hc1 := hv1.cell; have hf1 := hv1.frozen)
  exact ⟨hk2.from _, hb2, ⟨_, hv2, by simpa using hr2, trivial⟩, hB.trans hb2⟩
 case done =>
  rintro D ys W hD rfl ⟨⟨v, hv, hrow, _⟩, hB⟩ hK
  have hc := hv.cell
  gi_wp2
  refine ⟨by simp, .inl ⟨_, _, rfl, run_takeDeferred hK, ?_⟩⟩
  exact ⟨_, results_tmp rfl _ _ _, v, rfl, ownsRow_putObj hrow _ hK rfl, hB.trans (belowK_b (w := w) (Nat.le_refl _) W D _ _ (by simp at hD; omega) hK rfl rfl)⟩
 case stop =>
  rintro D c pre W _ _ h _
  exact h.elim
end Go.Proofs.YthgfdnffnbclpaaGreatDoor.PAll
namespace Go.Proofs.YthgfdnffnbclpaaGreatDoor.PAll
open Go.RowKit Go.Proofs.YthgfdnffnbclpaaGreatDoorW.PrintWords Go.Proofs.YthgfdnffnbclpaaGreatDoorW.PrintLast Go.Proofs.YthgfdnffnbclpaaGreatDoorW.PrintMore
set_option maxRecDepth 100000 in
theorem zhO (n : Nat) (h : n ≤ 12) (w : World) : Calls Tryz.prog 186 #[.int .u64 n] w fun e w' => ∃ r : Int, e = .returned (.int .i64 r) ∧ w' = w := by
 obtain ⟨j, rfl⟩ : ∃ j : Fin 13, n = j.val := ⟨⟨n, by omega⟩, rfl⟩
 have h1 : decide ((4294967296 : Int) ≤ (j.val : Int)) = false := decide_eq_false (by omega)
 have h2 : decide ((65536 : Int) ≤ (j.val : Int)) = false := decide_eq_false (by omega)
 have h3 : decide ((256 : Int) ≤ (j.val : Int)) = false := decide_eq_false (by omega)
 match j with
 | 0 | 1 | 2 | 3 | 4 | 5 | 6 | 7 | 8 | 9 | 10 | 11 | 12 =>
  go_enter Tryz.func186, Tryz.ntmps186
  go_wp2
  go_ret
  exact ⟨_, rfl, rfl⟩
theorem zjU (n : Nat) (h : n ≤ 12) (w : World) : Calls Tryz.prog 156 #[.int .u64 n] w fun e w' => ∃ r : Int, e = .returned (.int .i64 r) ∧ w' = w := by
 have HN := Aside0.mk (zhO n h w)
 go_enter Tryz.func156, Tryz.ntmps156
 go_wp2_with (go_at_call 186; refine HN.out.mono ?_; rintro e w1 ⟨r, rfl, rfl⟩)
 go_ret
 exact ⟨_, rfl, rfl⟩
set_option maxHeartbeats 4000000 in
set_option maxRecDepth 100000 in
theorem zjO (A : Option Addr) (cap : Nat) (l r : List Int) (lim : Int) (base : Nat) (ok : Nat → Prop) (w : World) (hO : (Kd.int .i64).R 3 w base ok (.slice A l.length cap) l) (hl : l.length ≤ 12) (hr : r.Perm l) (hrs : r.Pairwise (· ≤ ·)) :
  Calls Tryz.prog 155 #[.slice A l.length cap, .int .i64 0, .int .i64 l.length, .int .i64 lim] w fun e w' => e = .returned (.tuple #[]) ∧ (Kd.int .i64).R 3 w' base ok (.slice A l.length cap) r ∧ w.grownBy w' (Value.slice A l.length cap).ownBlock := by
 have HN := Aside0.mk (zf1 A cap l r base ok w hO (by omega) hr hrs)
 have hd : decide ((l.length : Int) ≤ 12) = true := decide_eq_true (by omega)
 clear hO hr hrs
 go_enter Tryz.func155, Tryz.ntmps155
 go_wp2
 refine wp_loop_once ?_
 go_wp2_with (go_at_call 177; refine HN.out.mono ?_; rintro e w1 ⟨rfl, hO1, hg1⟩)
 refine bodyPost_ret (results_none rfl _ _ _) rfl ?_
 exact ⟨rfl, hO1, hg1⟩
set_option maxHeartbeats 4000000 in
set_option maxRecDepth 100000 in
theorem zft (A : Option Addr) (cap : Nat) (l r : List Int) (base : Nat) (ok : Nat → Prop) (w : World) (hO : (Kd.int .i64).R 3 w base ok (.slice A l.length cap) l) (hl : l.length ≤ 12) (hr : r.Perm l) (hrs : r.Pairwise (· ≤ ·)) :
  Calls Tryz.prog 117 #[.slice A l.length cap] w fun e w' => e = .returned (.tuple #[]) ∧ (Kd.int .i64).R 3 w' base ok (.slice A l.length cap) r ∧ w.grownBy w' (Value.slice A l.length cap).ownBlock := by
 have HN := Aside0.mk (fun lim => zjO A cap l r lim base ok w hO hl hr hrs)
 have HL := Aside0.mk (zjU l.length hl w)
 clear hO hr hrs
 go_enter Tryz.func117, Tryz.ntmps117
 go_wp2_with (first
  | (go_at_call 156; refine HL.out.mono ?_; rintro e w1 ⟨lim, rfl, rfl⟩)
  | (go_at_call 155; refine (HN.out _).mono ?_; rintro e w2 ⟨rfl, hO1, hg1⟩))
 go_end0
 exact ⟨rfl, hO1, hg1⟩
theorem zf6 (Bs : Nat) (sv : Value) (zs : List Int) (hreach : zs.length ≤ 100) (w : World) (hBs : Bs < w.heap.size) (hcs : w.cell? ⟨Bs, 0, none⟩ = some sv) (hI : IntsAt w.heap.size w sv zs) :
  Calls Tryz.prog 157 #[.func (.func 158) #[] #[.pointer (some ⟨Bs, 0, none⟩)]] w fun e W' => ∃ v, e = .returned v ∧ (Kd.int .i64).R 3 W' w.heap.size (fun _ => True) v zs ∧ Below w.heap.size w W' := by
 have HN := Aside0.mk (zef Bs sv zs hreach w hBs hcs hI)
 clear hcs hI
 go_enter Tryz.func157, Tryz.ntmps157
 go_wp2_with (go_at_call 187; refine HN.out.mono ?_; rintro e w1 ⟨v, rfl, ho, hb1⟩)
 go_ret
 exact ⟨_, rfl, Kd.R_of_own ho (fun _ _ => trivial), hb1⟩
set_option maxRecDepth 100000 in
theorem zfW (Bs : Nat) (sv : Value) (zs r : List Int) (hreach : zs.length ≤ 12) (w : World) (hBs : Bs < w.heap.size) (hcs : w.cell? ⟨Bs, 0, none⟩ = some sv) (hI : IntsAt w.heap.size w sv zs) (hr : r.Perm zs) (hrs : r.Pairwise (· ≤ ·)) :
  Calls Tryz.prog 118 #[.func (.func 158) #[] #[.pointer (some ⟨Bs, 0, none⟩)]] w fun e W' => ∃ v, e = .returned v ∧ (Kd.int .i64).R 3 W' w.heap.size (fun _ => True) v r ∧ Below w.heap.size w W' := by
 have HN := Aside0.mk (zf6 Bs sv zs (by omega) w hBs hcs hI)
 have HR := Aside0.mk hr
 have HRS := Aside0.mk hrs
 clear hcs hI hr hrs
 go_enter Tryz.func118, Tryz.ntmps118
 go_wp2_with (first
  | (go_at_call 157; refine HN.out.mono ?_; rintro e w1 ⟨v, rfl, ho, hb1⟩; obtain ⟨A, c, ev⟩ := Kd.R_slice ho; subst ev; have HS := Aside0.mk (zft A c zs r w.heap.size (fun _ => True) w1 ho hreach HR.out HRS.out); have HB := Aside0.mk hb1; have hbs := Kd.R_base ho; clear ho hb1)
  | (go_at_call 117; refine HS.out.mono ?_; rintro e w2 ⟨rfl, ho2, hg2⟩))
 go_ret
 exact ⟨_, rfl, ho2, HB.out.grown hg2 HB.out.size (fun k hk => hbs k hk)⟩
theorem zgp (A : Option Addr) (n c : Nat) (w : World) :
  Calls Tryz.prog 119 #[.slice A n c] w fun e w' => e = .returned (.func (.func 158) #[] #[.pointer (some ⟨w.heap.size, 0, none⟩)]) ∧ w' = w.alloc (.cells #[.slice A n c] 70) := by
 go_enter Tryz.func119, Tryz.ntmps119
 go_wp2
 go_ret
 exact ⟨rfl, rfl⟩
theorem zjf {W : World} {A : Option Addr} {c n₀ : Nat} {zs : List Int} {base : Nat} {ok : Nat → Prop} (h : (Kd.int .i64).R 3 W base ok (.slice A zs.length c) zs) (hn : W.heap.size ≤ n₀) : IntsAt n₀ W (.slice A zs.length c) zs := by
 cases A with
 | none =>
  have hz : zs = [] := by
   cases zs with
   | nil => rfl
   | cons x l =>
    obtain ⟨g, cap, e, _⟩ := Kd.R_form h (by simp)
    cases e
  subst hz
  exact .inl ⟨c, rfl, rfl⟩
 | some ad =>
  obtain ⟨g, rfl⟩ := Kd.R_head h
  refine .inr ⟨g, 0, c, rfl, by have := Kd.R_lt h g (by simp [Value.ownBlock]); omega, fun j hj => ?_⟩
  have := (zdB h j hj).1
  rw [Nat.zero_add, this]
  simp [List.getD, hj]
def eqI (a b : List Int) : Bool := decide (a = b)
set_option maxHeartbeats 1000000 in
set_option maxRecDepth 100000 in
theorem zhX (A : Option Addr) (c : Nat) (a : List Int) (A2 : Option Addr) (c2 : Nat) (b : List Int) (w : World) (hC : Kd.C (Kd.int .i64) w A a.length a) (hc : a.length ≤ c) (hC2 : Kd.C (Kd.int .i64) w A2 b.length b) (hc2 : b.length ≤ c2) :
  Calls Tryz.prog 122 #[.slice A a.length c, .slice A2 b.length c2] w fun e w' => e = .returned (.bool (eqI a b)) ∧ Below w.heap.size w w' := by
 have HC := Aside0.mk hC
 have HC2 := Aside0.mk hC2
 have HB0 := Aside0.mk (Below.refl w.heap.size w)
 clear hC hC2
 unfold eqI
 go_enter Tryz.func122, Tryz.ntmps122
 by_cases q : a.length = b.length
 case neg =>
  have d0 : decide (a = b) = false := decide_eq_false (fun h => q (by rw [h]))
  have d1 : ((a.length : Int) == (b.length : Int)) = false := beq_eq_false_iff_ne.mpr (by omega)
  have d2 : ((a.length : Int) != (b.length : Int)) = true := bne_iff_ne.mpr (by omega)
  rw [d0]
  clear q d0
  go_wp2
  go_ret
  exact ⟨rfl, HB0.out⟩
 have d1 : ((a.length : Int) == (b.length : Int)) = true := beq_iff_eq.mpr (by omega)
 have d2 : ((a.length : Int) != (b.length : Int)) = false := by rw [bne, d1]; rfl
 have HQ := Aside0.mk q
 clear q
 go_wp2
 clear d1 d2
 go_loopg [13] a.length (fun gk v13 wx => ∃ (i : Nat), i + gk = a.length ∧ v13 = .int .i64 i ∧ Aside0 (Below w.heap.size w wx) ∧ Aside0 (a.take i = b.take i))
 case atStart => exact ⟨0, by omega, rfl, HB0, ⟨by simp⟩⟩
 case round =>
  clear HB0
  obtain ⟨i, hi, rfl, HW, HP⟩ := hrel
  cases gk with
  | zero =>
   have hii : ¬ (i : Int) < (a.length : Int) := by omega
   have d0 : decide (a = b) = true := decide_eq_true (by
    have h1 := HP.out
    rw [List.take_of_length_le (by omega), List.take_of_length_le (by have := HQ.out; omega)] at h1
    exact h1)
   have HD := Aside0.mk d0
   clear d0
   go_wp2
   go_ret
   exact ⟨by rw [HD.out]; rfl, HW.out⟩
  | succ gk =>
   have hlt : i < a.length := by omega
   have hlt2 : i < b.length := by have := HQ.out; omega
   have hii : (i : Int) < (a.length : Int) := by omega
   have hii2 : (i : Int) < (b.length : Int) := by omega
   have hi0 : (0 : Int) ≤ (i : Int) := by omega
   obtain ⟨ad, hA, hx⟩ := Kd.at_int HC.out (i : Int) hi0 hii
   obtain ⟨ad2, hA2, hx2⟩ := Kd.at_int HC2.out (i : Int) hi0 hii2
   cases hA
   cases hA2
   have e1 : rd a (i : Int) = a[i] := by unfold rd; simp [List.getD, hlt]
   have e2 : rd b (i : Int) = b[i] := by unfold rd; simp [List.getD, hlt2]
   rw [e1, Int.toNat_natCast] at hx
   rw [e2, Int.toNat_natCast] at hx2
   have hy := (HW.out.cell (World.block_lt_of_cell? w _ hx)).trans hx
   have hy2 := (HW.out.cell (World.block_lt_of_cell? w _ hx2)).trans hx2
   have KS : ∀ n, (wr.drewN n).cell? (ad.add i) = some (.int .i64 a[i]) ∧ (wr.drewN n).cell? (ad2.add i) = some (.int .i64 b[i]) := fun n => ⟨hy, hy2⟩
   have HB2 := Aside0.mk (fun n => below_step HW.out (zaa (Below.refl _ _) n))
   by_cases q : a[i] = b[i]
   ·have HP2 : Aside0 (a.take (i + 1) = b.take (i + 1)) := ⟨by rw [zay hlt, zay hlt2, HP.out, q]⟩
    have d1 : (a[i] == b[i]) = true := beq_iff_eq.mpr q
    have d2 : (a[i] != b[i]) = false := by rw [bne, d1]; rfl
    clear q hx hx2 e1 e2 HP
    generalize a[i] = xa at *
    generalize b[i] = xb at *
    go_wp2
    go_quiet (fail)
    go_wp2
    have HB3 := Aside0.mk (HB2.out nq)
    go_roundg gk
    case measure => omega
    case rel => exact ⟨i + 1, by omega, by first | rfl | (simp; done) | (have := HC.out.2.1; simp; unfold wrap64; omega), HB3, HP2⟩
   ·have d0 : decide (a = b) = false := decide_eq_false (fun h => q (by subst h; rfl))
    have d1 : (a[i] == b[i]) = false := beq_eq_false_iff_ne.mpr q
    have d2 : (a[i] != b[i]) = true := bne_iff_ne.mpr q
    have HD := Aside0.mk d0
    clear q hx hx2 e1 e2 HP d0
    generalize a[i] = xa at *
    generalize b[i] = xb at *
    go_wp2
    go_quiet (fail)
    go_wp2
    go_ret
    exact ⟨by rw [HD.out]; rfl, HB2.out nq⟩
end Go.Proofs.YthgfdnffnbclpaaGreatDoor.PAll
