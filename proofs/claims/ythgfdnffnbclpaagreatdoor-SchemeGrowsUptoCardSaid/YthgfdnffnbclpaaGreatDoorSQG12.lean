import Derived.Test.YthgfdnffnbclpaaGreatDoorSQG11
import Derived.Test.YthgfdnffnbclpaaGreatDoorSQG10
import Derived.Test.YthgfdnffnbclpaaGreatDoorSQG07
import Derived.Test.YthgfdnffnbclpaaGreatDoorSQG06
set_option linter.unusedVariables false
set_option linter.unusedSimpArgs false
namespace Go.Proofs.YthgfdnffnbclpaaGreatDoor.PAll
open Go.RowKit Go.Proofs.YthgfdnffnbclpaaGreatDoorW.PrintWords Go.Proofs.YthgfdnffnbclpaaGreatDoorW.PrintLast Go.Proofs.YthgfdnffnbclpaaGreatDoorW.PrintMore
mutual
def scheme_Valid.j0 : Nat → List (S49) → Bool → Option (Bool)
 | 0, _, _ => none
 | k + 1, x0, x13 => if x13 = true then (some false) else (scheme_Valid.l0 k x0 x0 (x0.length : Int) 0)
def scheme_Valid.l0 : Nat → List (S49) → List (S49) → Int → Int → Option (Bool)
 | 0, _, _, _, _ => none
 | k + 1, x0, x14, x15, x16 => if x16 < x15 then (if 0 ≤ x16 then (if x16 < (x14.length : Int) then (if x16 ≤ (x0.length : Int) then ((scheme_validTable.f k (x0.take (x16 : Int).toNat) ((rd_T49 x14 x16).f0) ((rd_T49 x14 x16).f1) ((rd_T49 x14 x16).f2) ((rd_T49 x14 x16).f3) ((rd_T49 x14 x16).f4)).bind fun t309 => (if t309 = true then (scheme_Valid.l0 k x0 x14 x15 (wrap64 (x16 + 1))) else (some false))) else (none)) else (none)) else (none)) else (some true)
end
def scheme_Valid.f (k : Nat) (l0 : List (S49)) : Option (Bool) := if (l0.length : Int) > 16 then (scheme_Valid.j0 k l0 true) else ((scheme_mapTableName.f k l0 0).bind fun t299 => ((scheme_distinct_string.f t299).bind fun t302 => (scheme_Valid.j0 k l0 (!t302))))
set_option maxHeartbeats 4000000 in
set_option maxRecDepth 100000 in
theorem scheme_Valid.calls (k : Nat) (A0 : Option Addr) (c0 : Nat) (l0 : List (S49)) (r : Bool) (w : World) (hr0 : Kd.C k49 w A0 l0.length l0) (hc0 : l0.length ≤ c0) (h : scheme_Valid.f k l0 = some r) (hL : LaidL w) :
  Calls Tryz.prog 28 #[.slice A0 l0.length c0] w fun e w' => e = .returned (.bool r) ∧ Below w.heap.size w w' := by
 have HR := Aside0.mk hr0
 have HL := Aside0.mk hL
 have HH := Aside0.mk h
 have hB0 := Aside0.mk (Below.refl w.heap.size w)
 have HLEN := Aside0.mk hr0.2.1
 clear hr0 hL h
 go_enter Tryz.func28, Tryz.ntmps28
 go_upto_region 1 with (fail)
 go_cut [13] (fun v13 wc => ∃ (kq : Nat) (b : Bool), v13 = .bool b ∧ Aside0 (scheme_Valid.j0 kq l0 b = some r) ∧ Aside0 (Below w.heap.size w wc))
 case first =>
  have h := HH.out
  unfold scheme_Valid.f at h
  by_cases q1 : (l0.length : Int) > 16
  ·rw [if_pos q1] at h
   have d1 : decide (16 < (l0.length : Int)) = true := decide_eq_true q1
   have HR' := Aside0.mk h
   clear h q1
   go_wp2
   go_meet
   case rel => exact ⟨_, true, by first | rfl | (simp; done) | (simp [d1]; done), HR', hB0⟩
  ·rw [if_neg q1] at h
   have d1 : decide (16 < (l0.length : Int)) = false := decide_eq_false q1
   obtain ⟨nms, hm, h⟩ := Option.bind_eq_some_iff.mp h
   obtain ⟨b, hd, h⟩ := Option.bind_eq_some_iff.mp h
   have HMC := Aside0.mk (scheme_mapTableName.calls k A0 c0 l0 0 nms w HR.out hc0 hm)
   have HDC : Aside0 (∀ A c W, Kd.C Kd.string W A nms.length nms → nms.length ≤ c → Calls Tryz.prog 64 #[.slice A nms.length c] W fun e w' => e = .returned (.bool b) ∧ Below W.heap.size W w') := ⟨fun A c W hC hc => scheme_distinct_string.calls A c nms b W hC hc hd⟩
   have HR' := Aside0.mk h
   clear h q1 hm hd
   go_wp2_with (first | (go_at_call 75; refine HMC.out.mono ?_; rintro e w1 ⟨v, rfl, hv, hb1⟩; obtain ⟨A7, c7, e7⟩ := Kd.R_slice hv; subst e7) | (go_at_call 64; refine (HDC.out _ _ _ (Kd.R_reads' hv).2.2 (Kd.R_reads' hv).2.1).mono ?_; rintro e w2 ⟨rfl, hb2⟩))
   go_meet
   case rel => exact ⟨_, !b, by first | rfl | (simp; done), HR', ⟨below_step hb1 hb2⟩⟩
 case rest =>
  clear HH hB0
  obtain ⟨kq, b, rfl, HA, HB⟩ := hcut
  cases kq with
  | zero => exact absurd HA.out (by simp [scheme_Valid.j0])
  | succ k1 =>
   have h := HA.out
   clear HA
   simp only [scheme_Valid.j0] at h
   cases b with
   | true =>
    rw [if_pos rfl] at h
    obtain rfl := Option.some.inj h
    clear h
    go_wp2
    go_ret
    exact ⟨rfl, HB.out⟩
   | false =>
    rw [if_neg (by decide)] at h
    have HP := Aside0.mk h
    clear h
    go_wp2
    have HVT : Aside0 (∀ (k : Nat) (A : Option Addr) (c : Nat) (l : List S49) (x : S49) (A1 : Option Addr) (c1 : Nat) (A2 : Option Addr) (c2 : Nat) (A3 : Option Addr) (c3 : Nat) (A4 : Option Addr) (c4 : Nat) (b : Bool) (W : World), Below w.heap.size w W → Kd.C k49 W A l.length l → l.length ≤ c → Kd.C k78 W A1 x.f1.length x.f1 → x.f1.length ≤ c1 → Kd.C (Kd.slice 3 (Kd.int .i64)) W A2 x.f2.length x.f2 → x.f2.length ≤ c2 → Kd.C k75 W A3 x.f3.length x.f3 → x.f3.length ≤ c3 → Kd.C (Kd.int .i64) W A4 x.f4.length x.f4 → x.f4.length ≤ c4 → scheme_validTable.f k l x.f0 x.f1 x.f2 x.f3 x.f4 = some b →
      Calls Tryz.prog 77 #[.slice A l.length c, .agg #[.string x.f0, .slice A1 x.f1.length c1, .slice A2 x.f2.length c2, .slice A3 x.f3.length c3, .slice A4 x.f4.length c4]] W fun e w' => e = .returned (.bool b) ∧ Below W.heap.size W w') := ⟨fun k A c l x A1 c1 A2 c2 A3 c3 A4 c4 b W hW h0 g0 h1 g1 h2 g2 h3 g3 h4 g4 hf => scheme_validTable.calls k A c l _ A1 c1 _ A2 c2 _ A3 c3 _ A4 c4 _ b W h0 g0 h1 g1 h2 g2 h3 g3 h4 g4 hf (LaidL.below HL hW)⟩
    go_loopg [16] k1 (fun gk v16 wx => ∃ (i : Int), v16 = .int .i64 i ∧ Aside0 (Below w.heap.size w wx) ∧ Aside0 (scheme_Valid.l0 gk l0 l0 (l0.length : Int) i = some r))
    case atStart => exact ⟨0, rfl, HB, HP⟩
    case round =>
     clear HB HP
     obtain ⟨i, rfl, HW, HP⟩ := hrel
     cases gk with
     | zero => exact absurd HP.out (by simp [scheme_Valid.l0])
     | succ gk =>
      have hp := HP.out
      simp only [scheme_Valid.l0] at hp
      by_cases hii : i < (l0.length : Int)
      ·rw [if_pos hii] at hp
       by_cases hi0 : 0 ≤ i
       case neg => rw [if_neg hi0] at hp; cases hp
       have hii2 : i ≤ (l0.length : Int) := by omega
       rw [if_pos hi0, if_pos hii, if_pos hii2] at hp
       obtain ⟨b, hv, hp2⟩ := Option.bind_eq_some_iff.mp hp
       clear hp HP
       have HP := Aside0.mk hp2
       clear hp2
       have hCw := Kd.C_below HR.out HW.out
       obtain ⟨ad, A1, c1, A2, c2, A3, c3, A4, c4, hA, hx0, hx1, hx2, hx3, hx4, g1, h1, g2, h2, g3, h3, g4, h4⟩ := at_T49 hCw i hi0 hii
       cases hA
       obtain ⟨i0_, hi0_, _, _, _⟩ := info_parts info72
       have hcut := cut_to (P := Tryz.prog) 23 72 .i64 Tryz.underlying23 hi0_ (some ad) l0.length c0 i hi0 hii2 hc0
       have hlen : (l0.take i.toNat).length = i.toNat := by rw [List.length_take]; omega
       have htk : Kd.C k49 wr (some ad) (l0.take i.toNat).length (l0.take i.toNat) := Kd.C_take (m := i.toNat) hCw (by omega)
       have HT := Aside0.mk htk
       generalize rd_T49 l0 i = x at *
       have HN : Aside0 (∀ W, Below wr.heap.size wr W → Calls Tryz.prog 77 #[.slice (some ad) i.toNat c0, .agg #[.string x.f0, .slice A1 x.f1.length c1, .slice A2 x.f2.length c2, .slice A3 x.f3.length c3, .slice A4 x.f4.length c4]] W fun e w' => e = .returned (.bool b) ∧ Below W.heap.size W w') := ⟨fun W hW => hlen ▸ HVT.out gk (some ad) c0 (l0.take i.toNat) x A1 c1 A2 c2 A3 c3 A4 c4 b W (below_step HW.out hW) (Kd.C_below htk hW) (by omega) (Kd.C_below h1 hW) g1 (Kd.C_below h2 hW) g2 (Kd.C_below h3 hW) g3 (Kd.C_below h4 hW) g4 hv⟩
       clear hv HVT h1 h2 h3 h4 g1 g2 g3 g4 hCw htk
       go_wp2
       obtain ⟨B, hB⟩ : ∃ B, B = wr.heap.size := ⟨_, rfl⟩
       obtain ⟨W1, hW1⟩ : ∃ W, W = wr.alloc (Obj.cells #[Value.string x.f0, Value.slice A1 x.f1.length c1, Value.slice A2 x.f2.length c2, Value.slice A3 x.f3.length c3, Value.slice A4 x.f4.length c4] 72) := ⟨_, rfl⟩
       have hBK : W1.heap[B]? = some (.cells #[Value.string x.f0, Value.slice A1 x.f1.length c1, Value.slice A2 x.f2.length c2, Value.slice A3 x.f3.length c3, Value.slice A4 x.f4.length c4] 72 (0, 0)) := by rw [hW1, hB]; exact Go.Deep.blk_alloc_new wr _
       have hBW : Below wr.heap.size wr W1 := by rw [hW1]; exact (Below.refl _ _).alloc (Nat.le_refl _) _
       rw [← hW1, ← hB]
       clear hW1 hB
       have c0_ := (blk_cell hBK 0).trans rfl
       have KB : ∀ W, (Below W1.heap.size W1 W) → W.cell? ⟨B, 0, none⟩ = some (Value.string x.f0) ∧ W.cell? ⟨B, 1, none⟩ = some (Value.slice A1 x.f1.length c1) ∧ W.cell? ⟨B, 2, none⟩ = some (Value.slice A2 x.f2.length c2) ∧ W.cell? ⟨B, 3, none⟩ = some (Value.slice A3 x.f3.length c3) ∧ W.cell? ⟨B, 4, none⟩ = some (Value.slice A4 x.f4.length c4) ∧ Below W1.heap.size W1 W := fun W hW => by
        have hh := (hW.block _ (blk_lt hBK)).trans hBK
        exact ⟨(blk_cell hh 0).trans rfl, (blk_cell hh 1).trans rfl, (blk_cell hh 2).trans rfl, (blk_cell hh 3).trans rfl, (blk_cell hh 4).trans rfl, hW⟩
       have hBB := Aside0.mk hBW
       clear hBK hBW c0_
       have KD := KB _ (below_drew1 (Below.refl _ _))
       refine start_ (n := 6) (S := fun w' => w'.cell? ⟨B, 0, none⟩ = some (Value.string x.f0) ∧ w'.cell? ⟨B, 1, none⟩ = some (Value.slice A1 x.f1.length c1) ∧ w'.cell? ⟨B, 2, none⟩ = some (Value.slice A2 x.f2.length c2) ∧ w'.cell? ⟨B, 3, none⟩ = some (Value.slice A3 x.f3.length c3) ∧ w'.cell? ⟨B, 4, none⟩ = some (Value.slice A4 x.f4.length c4) ∧ Below W1.heap.size W1 w') (ds := []) #[false, false, false, false, false, false] (by kernel_rfl) rfl rfl KD (fun hHeld => ?_)
       clear KD
       refine pure_ (i := 0) (N := some 21) (v := ?_) (a' := ?_) #[true, false, false, false, false, false] rfl rfl (by kernel_rfl) (fun _ _ _ h => h) (Or.inl ⟨by rfl, ?_⟩) ?_ ?_
       rotate_left
       ·intro w'; go_simp; with_reducible rfl
       rotate_left
       ·simp only [Act.put, List.setIfInBounds_toArray, List.set_cons_zero, List.set_cons_succ, i64_w, i32_w]; rfl
       refine pure_ (i := 1) (N := some 22) (v := ?_) (a' := ?_) #[true, true, false, false, false, false] rfl rfl (by kernel_rfl) (fun _ _ _ h => h) (Or.inl ⟨by rfl, ?_⟩) ?_ ?_
       rotate_left
       ·intro w'; go_simp; with_reducible rfl
       rotate_left
       ·simp only [Act.put, List.setIfInBounds_toArray, List.set_cons_zero, List.set_cons_succ, i64_w, i32_w]; rfl
       refine pure_ (i := 2) (N := some 23) (v := ?_) (a' := ?_) #[true, true, true, false, false, false] rfl rfl (by kernel_rfl) (fun _ _ _ h => h) (Or.inl ⟨by rfl, ?_⟩) ?_ ?_
       rotate_left
       ·intro w'; go_simp; with_reducible rfl
       rotate_left
       ·simp only [Act.put, List.setIfInBounds_toArray, List.set_cons_zero, List.set_cons_succ, i64_w, i32_w]; rfl
       refine take_ (i := 3) (N := some 24) (v := ?_) (a' := ?_) #[true, true, true, true, false, false] rfl rfl (by kernel_rfl) (fun _ _ _ h => h) (Or.inl ⟨by rfl, ?_⟩) hHeld ?_ ?_
       rotate_left
       ·rintro w' ⟨s0, s1, s2, s3, s4, _⟩; go_simp; with_reducible rfl
       rotate_left
       ·simp only [Act.put, List.setIfInBounds_toArray, List.set_cons_zero, List.set_cons_succ, i64_w, i32_w]; rfl
       refine one_ (i := 4) (N := some 25) #[true, true, true, true, true, false] rfl rfl (by kernel_rfl) (by decide) (fun K hK => ?_)
       refine goes_ Tryz.func77 (by kernel_rfl) rfl #[.slice (some ad) i.toNat c0, .agg #[.string x.f0, .slice A1 x.f1.length c1, .slice A2 x.f2.length c2, .slice A3 x.f3.length c3, .slice A4 x.f4.length c4]] (by rfl) rfl rfl (by (try simp only [List.map_toArray, List.map_cons, List.map_nil]); first | done | rfl) ?_
       have hWd := below_step hBB.out hHeld.2.2.2.2.2
       refine (HN.out _ hWd).mono ?_
       rintro e w1 ⟨rfl, hb1⟩
       refine ⟨_, rfl, ?_⟩
       refine hK.out _ _ (KB _ (below_step hHeld.2.2.2.2.2 hb1)) (fun hHeld2 => ?_)
       clear hK K
       refine norm_ (a' := ?_) ?_ ?_
       rotate_left
       ·show Act.put _ (some 25) _ = _; simp only [Act.put, List.setIfInBounds_toArray, List.set_cons_zero, List.set_cons_succ, i64_w, i32_w]; rfl
       refine pure_ (i := 5) (N := some 26) (v := ?_) (a' := ?_) #[true, true, true, true, true, true] rfl rfl (by kernel_rfl) (fun _ _ _ h => h) (Or.inl ⟨by rfl, ?_⟩) ?_ ?_
       rotate_left
       ·intro w'; go_simp; with_reducible rfl
       rotate_left
       ·simp only [Act.put, List.setIfInBounds_toArray, List.set_cons_zero, List.set_cons_succ, i64_w, i32_w]; rfl
       refine done_ (by kernel_rfl) ?_
       have HW2 := Aside0.mk (below_step HW.out (below_step hWd hb1))
       clear hWd hb1 hHeld hHeld2 KB HN HT hcut
       cases b with
       | false =>
        have hp := HP.out
        rw [if_neg (by decide)] at hp
        obtain rfl := Option.some.inj hp
        clear hp
        go_wp2
        go_ret
        exact ⟨rfl, HW2.out⟩
       | true =>
        have hp := HP.out
        rw [if_pos rfl] at hp
        have HP2 := Aside0.mk hp
        clear hp
        go_wp2
        go_roundg gk
        case measure => omega
        case rel => exact ⟨wrap64 (i + 1), by first | rfl | (simp; done), HW2, HP2⟩
      ·rw [if_neg hii] at hp
       obtain rfl := Option.some.inj hp
       clear hp HP HVT
       go_wp2
       go_ret
       exact ⟨rfl, HW.out⟩
section
variable {α : Type} [DecidableEq α]
def distQ : List α → List α → Bool
 | _, [] => true
 | p, x :: r => if memP x p = true then false else distQ (p ++ [x]) r
theorem distP_Q : ∀ (l S p : List α), (∀ x, x ∈ S ↔ x ∈ p) → distP S l = distQ p l
 | [], _, _, _ => rfl
 | x :: r, S, p, h => by
  rw [distP, distQ]
  by_cases q : x ∈ S
  ·rw [if_pos ((memP_iff x S).2 q), if_pos ((memP_iff x p).2 ((h x).1 q))]
  ·rw [if_neg (fun e => q ((memP_iff x S).1 e)), if_neg (fun e => q ((h x).2 ((memP_iff x p).1 e)))]
   exact distP_Q r _ _ (fun y => by rw [List.mem_cons, List.mem_append, List.mem_singleton, h y]; exact Or.comm)
theorem distQ_at (l : List α) (i : Nat) (h : i < l.length) : distQ (l.take i) (l.drop i) = if memP l[i] (l.take i) = true then false else distQ (l.take (i + 1)) (l.drop (i + 1)) := by
 rw [List.drop_eq_getElem_cons h, distQ, List.take_add_one, List.getElem?_eq_getElem h]
 rfl
end
def kindsG (tc oc : List S78) (all key : List Int) : Nat → Nat → Bool
 | 0, _ => true
 | g + 1, i => if rd all i < 0 then false else if rd all i ≥ (tc.length : Int) then false else if (rd_T78 tc (rd all i)).f1 = (rd_T78 oc (rd key i)).f1 then kindsG tc oc all key g (i + 1) else false
def refB (b : List S49) (tc : List S78) (r : S75) : Bool :=
 if r.f1 < 0 then false else if r.f1 ≥ (b.length : Int) then false else if r.f2 < 0 then false else if r.f2 ≥ ((rd_T49 b r.f1).f2.length : Int) then false else
  if (r.f0.length : Int) = ((rd_L6 (rd_T49 b r.f1).f2 r.f2).length : Int) then (kindsG tc (rd_T49 b r.f1).f1 r.f0 (rd_L6 (rd_T49 b r.f1).f2 r.f2) r.f0.length 0 && distP [] r.f0) else false
def KeysIn (t : S49) : Prop := ∀ key ∈ t.f2, ∀ q ∈ key, 0 ≤ q ∧ q < (t.f1.length : Int)
def wfR (r : S75) : Prop := r.f0.length ≤ 9223372036854775807 ∧ r.f0.all (fun s => (Lit.int .i64 s).wf) = true
theorem rd_mem {l : List Int} {i : Nat} (h : i < l.length) : rd l (i : Int) ∈ l := by
 have : rd l (i : Int) = l[i] := by unfold rd; simp [List.getD, h]
 rw [this]; exact List.getElem_mem h
theorem rd_at {l : List Int} {i : Nat} (h : i < l.length) : rd l (i : Int) = l[i] := by unfold rd; simp [List.getD, h]
theorem rrP_is (tc oc : List S78) (all key : List Int) (hl : key.length = all.length) (hk : ∀ q ∈ key, 0 ≤ q ∧ q < (oc.length : Int)) : ∀ (d i : Nat), i + d = all.length → rrP tc oc all key d i = some (kindsG tc oc all key d i && distQ (all.take i) (all.drop i)) := by
 intro d
 induction d with
 | zero => intro i hi; rw [rrP, kindsG, List.drop_eq_nil_of_le (by omega)]; rfl
 | succ d ih =>
  intro i hi
  have hi2 : i < all.length := by omega
  have hq := hk _ (rd_mem (l := key) (i := i) (by omega))
  rw [rrP, kindsG, ih (i + 1) (by omega), distQ_at all i hi2, ← rd_at hi2]
  by_cases q1 : rd all (i : Int) < 0
  ·rw [if_pos q1, if_pos q1]; rfl
  rw [if_neg q1, if_neg q1]
  by_cases q2 : rd all (i : Int) ≥ (tc.length : Int)
  ·rw [if_pos q2, if_pos q2]; rfl
  rw [if_neg q2, if_neg q2, if_pos hq]
  by_cases q3 : (rd_T78 tc (rd all (i : Int))).f1 = (rd_T78 oc (rd key (i : Int))).f1
  ·rw [if_pos q3, if_pos q3]
   by_cases q4 : rd all (i : Int) ∈ all.take i
   ·rw [if_pos q4, if_pos ((memP_iff _ _).2 q4), Bool.and_false]
   ·rw [if_neg q4, if_neg (fun e => q4 ((memP_iff _ _).1 e))]
  ·rw [if_neg q3, if_neg q3]; rfl
theorem rd49_take {s : List S49} {n : Nat} {i : Int} (h0 : 0 ≤ i) (h : i < (n : Int)) : rd_T49 (s.take n) i = rd_T49 s i := by
 unfold rd_T49
 rw [List.getD_eq_getElem?_getD, List.getD_eq_getElem?_getD, List.getElem?_take, if_pos (by omega)]
theorem rd49_mem {s : List S49} {i : Int} (h0 : 0 ≤ i) (h : i < (s.length : Int)) : rd_T49 s i ∈ s := by
 unfold rd_T49
 rw [List.getD_eq_getElem?_getD, List.getElem?_eq_getElem (by omega : i.toNat < s.length)]
 exact List.getElem_mem _
theorem rdL6_mem {s : List (List Int)} {i : Int} (h0 : 0 ≤ i) (h : i < (s.length : Int)) : rd_L6 s i ∈ s := by
 unfold rd_L6
 rw [List.getD_eq_getElem?_getD, List.getElem?_eq_getElem (by omega : i.toNat < s.length)]
 exact List.getElem_mem _
theorem refRef_is (s : List S49) (n : Nat) (hn : n < s.length) (hk : ∀ t ∈ s.take n, KeysIn t) (r : S75) : refRefP s n r.f0 r.f1 r.f2 = some (refB (s.take n) (rd_T49 s n).f1 r) := by
 have hlen : (s.take n).length = n := by rw [List.length_take]; omega
 unfold refRefP refB
 rw [hlen]
 by_cases q1 : r.f1 < 0
 ·rw [if_pos q1, if_pos q1]
 rw [if_neg q1, if_neg q1]
 by_cases q2 : r.f1 ≥ (n : Int)
 ·rw [if_pos q2, if_pos q2]
 rw [if_neg q2, if_neg q2]
 by_cases q3 : r.f2 < 0
 ·rw [if_pos q3, if_pos q3]
 rw [if_neg q3, if_neg q3, rd49_take (by omega) (by omega)]
 by_cases q4 : r.f2 ≥ ((rd_T49 s r.f1).f2.length : Int)
 ·rw [if_pos q4, if_pos q4]
 rw [if_neg q4, if_neg q4]
 by_cases q5 : (r.f0.length : Int) = ((rd_L6 (rd_T49 s r.f1).f2 r.f2).length : Int)
 ·rw [if_pos q5, if_pos q5]
  have hin : KeysIn (rd_T49 s r.f1) := by
   have := rd49_mem (s := s.take n) (i := r.f1) (by omega) (by rw [hlen]; omega)
   rw [rd49_take (by omega) (by omega)] at this
   exact hk _ this
  have h := rrP_is (rd_T49 s n).f1 (rd_T49 s r.f1).f1 r.f0 (rd_L6 (rd_T49 s r.f1).f2 r.f2) (by omega) (hin _ (rdL6_mem (by omega) (by omega))) r.f0.length 0 (by omega)
  rw [h, List.take_zero, List.drop_zero, ← distP_Q r.f0 [] [] (fun x => Iff.rfl)]
 ·rw [if_neg q5, if_neg q5]
theorem validRef_l (b : List S49) (key all : List Int) (hl : key.length = all.length) (nm : ByteArray) (tc : List S78) (ks : List (List Int)) (rs : List S75) (ix cols : List Int) (t q : Int) (h1 : 0 ≤ t) (h2 : t < (b.length : Int)) (hk : ∀ q ∈ key, 0 ≤ q ∧ q < ((rd_T49 b t).f1.length : Int)) (hal : all.length ≤ 9223372036854775807) :
  ∀ (d i k : Nat), i + d = all.length → d < k → scheme_validRef.l0 k b key all (all.length : Int) (i : Int) nm tc ks rs ix cols t q = some (kindsG tc (rd_T49 b t).f1 all key d i) := by
 intro d
 induction d with
 | zero =>
  intro i k hi hk'
  obtain ⟨k, rfl⟩ : ∃ m, k = m + 1 := ⟨k - 1, by omega⟩
  rw [scheme_validRef.l0, if_neg (by omega)]; rfl
 | succ d ih =>
  intro i k hi hk'
  obtain ⟨k, rfl⟩ : ∃ m, k = m + 1 := ⟨k - 1, by omega⟩
  have hq := hk _ (rd_mem (l := key) (i := i) (by omega))
  rw [scheme_validRef.l0, if_pos (by omega), if_pos (by omega), if_pos (by omega), kindsG, w1 i (by omega), ih (i + 1) k (by omega) (by omega)]
  by_cases q1 : rd all (i : Int) < 0
  ·rw [if_pos q1, if_pos q1]
  rw [if_neg q1, if_neg q1]
  by_cases q2 : rd all (i : Int) ≥ (tc.length : Int)
  ·rw [if_pos q2, if_pos q2]
  rw [if_neg q2, if_neg q2, if_pos (by omega), if_pos (by omega), if_pos h1, if_pos h2, if_pos (by omega), if_pos hq.1, if_pos hq.2]
  by_cases q3 : (rd_T78 tc (rd all (i : Int))).f1 = (rd_T78 (rd_T49 b t).f1 (rd key (i : Int))).f1
  ·rw [if_pos q3, if_pos q3]
  ·rw [if_neg q3, if_neg q3]
theorem validRef_is (b : List S49) (hk : ∀ t ∈ b, KeysIn t) (nm : ByteArray) (tc : List S78) (ks : List (List Int)) (rs : List S75) (ix : List Int) (r : S75) (hr : wfR r) (k : Nat) (hkk : r.f0.length + 2 ≤ k) :
  scheme_validRef.f k b nm tc ks rs ix r.f0 r.f1 r.f2 = some (refB b tc r) := by
 obtain ⟨k, rfl⟩ : ∃ m, k = m + 1 := ⟨k - 1, by omega⟩
 unfold scheme_validRef.f refB
 by_cases q1 : r.f1 < 0
 ·rw [if_pos q1, if_pos q1, scheme_validRef.j0, if_pos rfl]
 rw [if_neg q1, if_neg q1]
 by_cases q2 : r.f1 ≥ (b.length : Int)
 ·rw [if_pos q2, if_pos q2, scheme_validRef.j0, if_pos rfl]
 rw [if_neg q2, if_neg q2]
 by_cases q3 : r.f2 < 0
 ·rw [if_pos q3, if_pos q3, scheme_validRef.j0, if_pos rfl]
 rw [if_neg q3, if_neg q3, if_pos (by omega), if_pos (by omega)]
 by_cases q4 : r.f2 ≥ ((rd_T49 b r.f1).f2.length : Int)
 ·rw [if_pos q4, if_pos q4, scheme_validRef.j0, if_pos rfl]
 rw [if_neg q4, if_neg q4, scheme_distinct_int.f, if_pos hr.2, Option.bind_some, scheme_validRef.j0]
 cases hd : distP [] r.f0 with
 | false =>
  rw [if_pos (by decide), Bool.and_false]
  split <;> rfl
 | true =>
  rw [if_neg (by decide), if_pos (by omega), if_pos (by omega), if_pos (by omega), if_pos (by omega), Bool.and_true]
  by_cases q5 : (r.f0.length : Int) = ((rd_L6 (rd_T49 b r.f1).f2 r.f2).length : Int)
  ·rw [if_pos q5.symm, if_pos q5]
   exact validRef_l b _ r.f0 (by omega) nm tc ks rs ix r.f0 r.f1 r.f2 (by omega) (by omega) (hk _ (rd49_mem (by omega) (by omega)) _ (rdL6_mem (by omega) (by omega))) hr.1 r.f0.length 0 k (by omega) (by omega)
  ·rw [if_neg (fun e => q5 e.symm), if_neg q5]
def wfT (t : S49) : Prop := t.f0.size ≤ 9223372036854775807 ∧ (∀ c ∈ t.f1, c.f0.size ≤ 9223372036854775807) ∧ (∀ key ∈ t.f2, key.length ≤ 9223372036854775807) ∧ (∀ r ∈ t.f3, wfR r) ∧ t.f4.length ≤ 9223372036854775807
def tabB (b : List S49) (t : S49) : Bool :=
 if nmB t.f0 = true then if (t.f1.length : Int) > 8 then false else if (t.f2.length : Int) > 4 then false else if (t.f3.length : Int) > 4 then false else
  risB t.f4 (t.f1.length : Int) && (distP [] (t.f1.map (·.f0)) && (t.f1.all colB && (keysB (t.f1.length : Int) t.f2 && t.f3.all (refB b t.f1))))
 else false
theorem mapCol_l (l : List S78) (h8 : l.length ≤ 8) : ∀ (d i k : Nat) (acc : List ByteArray), i + d = l.length → acc.length = i → d < k → scheme_mapColName.l0 k acc l (l.length : Int) (i : Int) = some (acc ++ (l.drop i).map (·.f0)) := by
 intro d
 induction d with
 | zero =>
  intro i k acc hi ha hk
  obtain ⟨k, rfl⟩ : ∃ m, k = m + 1 := ⟨k - 1, by omega⟩
  rw [scheme_mapColName.l0, if_neg (by omega), List.drop_eq_nil_of_le (by omega)]; simp
 | succ d ih =>
  intro i k acc hi ha hk
  obtain ⟨k, rfl⟩ : ∃ m, k = m + 1 := ⟨k - 1, by omega⟩
  rw [scheme_mapColName.l0, if_pos (by omega), if_pos (by omega), if_pos (by omega), scheme_validTable_1.f, Option.bind_some, if_pos (by omega), w1 i (by omega), ih (i + 1) k _ (by omega) (by simp; omega) (by omega)]
  rw [List.drop_eq_getElem_cons (by omega : i < l.length), List.map_cons, rdT78 (by omega)]
  simp
theorem mapTab_l (l : List S49) (h8 : l.length ≤ 16) : ∀ (d i k : Nat) (acc : List ByteArray), i + d = l.length → acc.length = i → d < k → scheme_mapTableName.l0 k acc l (l.length : Int) (i : Int) = some (acc ++ (l.drop i).map (·.f0)) := by
 intro d
 induction d with
 | zero =>
  intro i k acc hi ha hk
  obtain ⟨k, rfl⟩ : ∃ m, k = m + 1 := ⟨k - 1, by omega⟩
  rw [scheme_mapTableName.l0, if_neg (by omega), List.drop_eq_nil_of_le (by omega)]; simp
 | succ d ih =>
  intro i k acc hi ha hk
  obtain ⟨k, rfl⟩ : ∃ m, k = m + 1 := ⟨k - 1, by omega⟩
  rw [scheme_mapTableName.l0, if_pos (by omega), if_pos (by omega), if_pos (by omega), scheme_Valid_1.f, Option.bind_some, if_pos (by omega), w1 i (by omega), ih (i + 1) k _ (by omega) (by simp; omega) (by omega)]
  rw [List.drop_eq_getElem_cons (by omega : i < l.length), List.map_cons, rdT49 (by omega)]
  simp
theorem anyBad_is (b : List S49) (hk : ∀ t ∈ b, KeysIn t) (nm : ByteArray) (tc : List S78) (ks : List (List Int)) (rs : List S75) (ix : List Int) (l : List S75) (hl : l.length ≤ 4) (K : Nat) (hw : ∀ r ∈ l, wfR r ∧ r.f0.length + 2 ≤ K) :
  ∀ k, K + 10 ≤ k → scheme_anyBadRef.f k l b nm tc ks rs ix = some (!(l.all (refB b tc))) := by
 have key : ∀ (d i k : Nat), i + d = l.length → K + d < k → ∃ v : Int, scheme_idxBadRef.l0 k l b (l.length : Int) (i : Int) nm tc ks rs ix = some v ∧ decide (v ≥ 0) = !((l.drop i).all (refB b tc)) := by
  intro d
  induction d with
  | zero =>
   intro i k hi hk'
   obtain ⟨k, rfl⟩ : ∃ m, k = m + 1 := ⟨k - 1, by omega⟩
   exact ⟨-1, by rw [scheme_idxBadRef.l0, if_neg (by omega)], by rw [List.drop_eq_nil_of_le (by omega)]; rfl⟩
  | succ d ih =>
   intro i k hi hk'
   obtain ⟨k, rfl⟩ : ∃ m, k = m + 1 := ⟨k - 1, by omega⟩
   have hr := hw _ (List.getElem_mem (by omega : i < l.length))
   rw [scheme_idxBadRef.l0, if_pos (by omega), if_pos (by omega), if_pos (by omega), scheme_badRef.f, rdT75 (by omega), validRef_is b hk nm tc ks rs ix _ hr.1 k (by omega), Option.bind_some, Option.bind_some, List.drop_eq_getElem_cons (by omega : i < l.length), List.all_cons]
   cases hb : refB b tc l[i] with
   | false => exact ⟨_, by rw [if_pos (by decide)], by simp⟩
   | true =>
    rw [if_neg (by decide), w1 i (by omega), Bool.true_and]
    exact ih (i + 1) k (by omega) (by omega)
 intro k hk'
 obtain ⟨v, h1, h2⟩ := key l.length 0 k (by omega) (by omega)
 unfold scheme_anyBadRef.f scheme_idxBadRef.f
 rw [show ((0 : Nat) : Int) = (0 : Int) from rfl] at h1
 rw [h1, Option.bind_some, h2, List.drop_zero]
theorem keysB_all (n : Int) : ∀ l : List (List Int), keysB n l = l.all (keyB n)
 | [] => rfl
 | k :: r => by rw [keysB, List.all_cons, keysB_all n r]; cases keyB n k <;> rfl
theorem validTable_is (b : List S49) (hk : ∀ t ∈ b, KeysIn t) (t : S49) (hw : wfT t) : Ev (fun k => scheme_validTable.f k b t.f0 t.f1 t.f2 t.f3 t.f4) (tabB b t) := by
 obtain ⟨h0, h1, h2, h3, h4⟩ := hw
 obtain ⟨K, hK⟩ : ∃ K, ∀ r ∈ t.f3, r.f0.length + 2 ≤ K := by
  clear h1 h2 h3 h4
  induction t.f3 with
  | nil => exact ⟨0, fun r h => by cases h⟩
  | cons a l ih =>
   obtain ⟨K, h⟩ := ih
   exact ⟨K + a.f0.length + 2, fun r hr => by rcases List.mem_cons.1 hr with rfl | hr; omega; have := h r hr; omega⟩
 obtain ⟨M, hM⟩ : ∃ M, ∀ r ∈ t.f2, r.length < M := by
  clear h1 h2 h3 h4
  induction t.f2 with
  | nil => exact ⟨0, fun r h => by cases h⟩
  | cons a l ih =>
   obtain ⟨M, h⟩ := ih
   exact ⟨M + a.length + 1, fun r hr => by rcases List.mem_cons.1 hr with rfl | hr; omega; have := h r hr; omega⟩
 refine ⟨K + M + t.f4.length + 200, fun k hk' => ?_⟩
 obtain ⟨k, rfl⟩ : ∃ m, k = m + 1 := ⟨k - 1, by omega⟩
 show scheme_validTable.f (k + 1) b t.f0 t.f1 t.f2 t.f3 t.f4 = some (tabB b t)
 unfold scheme_validTable.f tabB
 rw [name_is _ _ (by omega), show Lx.isNm isKw t.f0.data.toList = nmB t.f0 from rfl, Option.bind_some]
 have hj : ∀ x, scheme_validTable.j0 (k + 1) b true t.f0 t.f1 t.f2 t.f3 t.f4 = some x ↔ x = false := fun x => by rw [scheme_validTable.j0, if_pos rfl]; simp [eq_comm]
 by_cases q0 : nmB t.f0 = true
 case neg => rw [if_neg q0, if_neg q0]; exact (hj _).2 rfl
 rw [if_pos q0, if_pos q0]
 by_cases q1 : (t.f1.length : Int) > 8
 ·rw [if_pos q1, if_pos q1]; exact (hj _).2 rfl
 rw [if_neg q1, if_neg q1]
 by_cases q2 : (t.f2.length : Int) > 4
 ·rw [if_pos q2, if_pos q2]; exact (hj _).2 rfl
 rw [if_neg q2, if_neg q2]
 by_cases q3 : (t.f3.length : Int) > 4
 ·rw [if_pos q3, if_pos q3]; exact (hj _).2 rfl
 rw [if_neg q3, if_neg q3, rising_s t.f4 _ h4 (k + 1) (by omega), Option.bind_some]
 cases hr : risB t.f4 (t.f1.length : Int) with
 | false => rw [Bool.false_and]; exact (hj _).2 rfl
 | true =>
 have hm := mapCol_l t.f1 (by omega) t.f1.length 0 k [] (by omega) rfl (by omega)
 rw [show ((0 : Nat) : Int) = (0 : Int) from rfl, List.nil_append, List.drop_zero] at hm
 have hall : (t.f1.map (·.f0)).all (fun s => decide (s.size ≤ 9223372036854775807)) = true := by
  rw [List.all_eq_true]
  intro s hs
  obtain ⟨c, hc, rfl⟩ := List.mem_map.1 hs
  exact decide_eq_true (h1 c hc)
 rw [scheme_validTable.j0, if_neg (by decide), scheme_mapColName.f, if_pos (by omega), hm, Option.bind_some, scheme_distinct_string.f, if_pos hall, Option.bind_some, Bool.true_and]
 cases hd : distP [] (t.f1.map (·.f0)) with
 | false => rw [if_neg (by decide), Bool.false_and]
 | true =>
 rw [if_pos rfl, Bool.true_and]
 have l1 : ∀ (d i k : Nat), i + d = t.f2.length → K + M + d + 20 < k → scheme_validTable.l1 k b t.f2 (t.f2.length : Int) (i : Int) t.f0 t.f1 t.f2 t.f3 t.f4 = some ((t.f2.drop i).all (keyB (t.f1.length : Int)) && t.f3.all (refB b t.f1)) := by
  intro d
  induction d with
  | zero =>
   intro i k hi hk'
   obtain ⟨k, rfl⟩ : ∃ m, k = m + 1 := ⟨k - 1, by omega⟩
   rw [scheme_validTable.l1, if_neg (by omega), anyBad_is b hk t.f0 t.f1 t.f2 t.f3 t.f4 t.f3 (by omega) K (fun r hr => ⟨h3 r hr, hK r hr⟩) k (by omega), Option.bind_some, List.drop_eq_nil_of_le (by omega)]
   simp
  | succ d ih =>
   intro i k hi hk'
   obtain ⟨k, rfl⟩ : ∃ m, k = m + 1 := ⟨k - 1, by omega⟩
   have hmem := List.getElem_mem (by omega : i < t.f2.length)
   rw [scheme_validTable.l1, if_pos (by omega), if_pos (by omega), if_pos (by omega), rdL6 (by omega), List.drop_eq_getElem_cons (by omega : i < t.f2.length), List.all_cons, keyB]
   by_cases q : (t.f2[i].length : Int) = 0
   ·rw [if_pos q, if_pos q, Bool.false_and, Bool.false_and]
   ·rw [if_neg q, if_neg q, rising_s _ _ (h2 _ hmem) k (by have := hM _ hmem; omega), Option.bind_some, w1 i (by omega), ih (i + 1) k (by omega) (by omega)]
    cases risB t.f2[i] (t.f1.length : Int) <;> simp
 have l0 : ∀ (d i k : Nat), i + d = t.f1.length → K + M + d + 70 < k → scheme_validTable.l0 k b t.f1 (t.f1.length : Int) (i : Int) t.f0 t.f1 t.f2 t.f3 t.f4 = some ((t.f1.drop i).all colB && (t.f2.all (keyB (t.f1.length : Int)) && t.f3.all (refB b t.f1))) := by
  intro d
  induction d with
  | zero =>
   intro i k hi hk'
   obtain ⟨k, rfl⟩ : ∃ m, k = m + 1 := ⟨k - 1, by omega⟩
   have := l1 t.f2.length 0 k (by omega) (by omega)
   rw [show ((0 : Nat) : Int) = (0 : Int) from rfl, List.drop_zero] at this
   rw [scheme_validTable.l0, if_neg (by omega), this, List.drop_eq_nil_of_le (by omega)]
   simp
  | succ d ih =>
   intro i k hi hk'
   obtain ⟨k, rfl⟩ : ∃ m, k = m + 1 := ⟨k - 1, by omega⟩
   rw [scheme_validTable.l0, if_pos (by omega), if_pos (by omega), if_pos (by omega), col_s _ k (by omega), Option.bind_some, rdT78 (by omega), List.drop_eq_getElem_cons (by omega : i < t.f1.length), List.all_cons, w1 i (by omega), ih (i + 1) k (by omega) (by omega)]
   cases colB t.f1[i] <;> simp
 have := l0 t.f1.length 0 k (by omega) (by omega)
 rw [show ((0 : Nat) : Int) = (0 : Int) from rfl, List.drop_zero] at this
 rw [this, keysB_all]
theorem ris_facts (l : List Int) (n : Int) : ∀ (d i : Nat), i + d = l.length → risG l n d i = true → ∀ j, i ≤ j → j < l.length → 0 ≤ rd l (j : Int) ∧ rd l (j : Int) < n ∧ (0 < j → rd l ((j - 1 : Nat) : Int) < rd l (j : Int)) := by
 intro d
 induction d with
 | zero => intro i hi _ j h1 h2; omega
 | succ d ih =>
  intro i hi h j h1 h2
  rw [risG] at h
  split at h
  ·cases h
  split at h
  ·cases h
  split at h
  ·cases h
  rename_i q1 q2 q3
  by_cases e : j = i
  ·subst e
   exact ⟨by omega, by omega, fun hp => by
    by_cases hh : rd l (j : Int) ≤ rd l ((j - 1 : Nat) : Int)
    ·exact absurd ⟨hp, hh⟩ q3
    ·omega⟩
  ·exact ih (i + 1) (by omega) h j (by omega) h2
theorem risB_in {l : List Int} {n : Int} (h : risB l n = true) : ∀ q ∈ l, 0 ≤ q ∧ q < n := by
 intro q hq
 obtain ⟨j, hj, rfl⟩ := List.getElem_of_mem hq
 have := ris_facts l n l.length 0 (by omega) h j (by omega) hj
 rw [rd_at hj] at this
 exact ⟨this.1, this.2.1⟩
theorem risB_len {l : List Int} {n : Int} (h : risB l n = true) (hn : 0 ≤ n) : (l.length : Int) ≤ n := by
 have key : ∀ j, j < l.length → (j : Int) ≤ rd l (j : Int) := by
  intro j
  induction j with
  | zero => intro hj; have := (ris_facts l n l.length 0 (by omega) h 0 (by omega) hj).1; omega
  | succ j ih =>
   intro hj
   have h1 := ih (by omega)
   have h2 := (ris_facts l n l.length 0 (by omega) h (j + 1) (by omega) hj).2.2 (by omega)
   rw [show j + 1 - 1 = j by omega] at h2
   omega
 by_cases q : l.length = 0
 ·omega
 ·have h1 := key (l.length - 1) (by omega)
  have h2 := (ris_facts l n l.length 0 (by omega) h (l.length - 1) (by omega) (by omega)).2.1
  omega
theorem tabB_facts {b : List S49} {t : S49} (h : tabB b t = true) : t.f1.length ≤ 8 ∧ (∀ key ∈ t.f2, risB key (t.f1.length : Int) = true) ∧ (∀ r ∈ t.f3, refB b t.f1 r = true) := by
 unfold tabB at h
 split at h
 ·split at h
  ·cases h
  split at h
  ·cases h
  split at h
  ·cases h
  simp only [Bool.and_eq_true] at h
  obtain ⟨_, _, _, h4, h5⟩ := h
  refine ⟨by omega, fun key hk => ?_, fun r hr => List.all_eq_true.1 h5 r hr⟩
  rw [keysB_all] at h4
  have := List.all_eq_true.1 h4 key hk
  unfold keyB at this
  split at this
  ·cases this
  ·exact this
 ·cases h
theorem tabB_keys {b : List S49} {t : S49} (h : tabB b t = true) : KeysIn t := fun key hk => risB_in ((tabB_facts h).2.1 key hk)
def tabsB (s : List S49) : Nat → Nat → Bool
 | 0, _ => true
 | g + 1, i => tabB (s.take i) (rd_T49 s (i : Int)) && tabsB s g (i + 1)
def validB (s : List S49) : Bool := decide (s.length ≤ 16) && (distP [] (s.map (·.f0)) && tabsB s s.length 0)
theorem take_keys {s : List S49} {i : Nat} (h : i < s.length) (hk : ∀ t ∈ s.take i, KeysIn t) (ht : KeysIn (rd_T49 s (i : Int))) : ∀ t ∈ s.take (i + 1), KeysIn t := by
 intro t hm
 rw [List.take_add_one, List.getElem?_eq_getElem h] at hm
 rcases List.mem_append.1 hm with hm | hm
 ·exact hk t hm
 ·have : t = s[i] := by simpa using hm
  rw [this, ← rdT49 h]; exact ht
theorem valid_l (s : List S49) (h16 : s.length ≤ 16) (hw : ∀ t ∈ s, wfT t) : ∀ (d i : Nat), i + d = s.length → (∀ t ∈ s.take i, KeysIn t) → Ev (fun k => scheme_Valid.l0 k s s (s.length : Int) (i : Int)) (tabsB s d i) := by
 intro d
 induction d with
 | zero =>
  intro i hi _
  refine ⟨1, fun k hk => ?_⟩
  obtain ⟨k, rfl⟩ : ∃ m, k = m + 1 := ⟨k - 1, by omega⟩
  show scheme_Valid.l0 (k + 1) s s (s.length : Int) (i : Int) = some (tabsB s 0 i)
  rw [scheme_Valid.l0, if_neg (by omega)]; rfl
 | succ d ih =>
  intro i hi hk
  have hlt : i < s.length := by omega
  obtain ⟨K1, h1⟩ := validTable_is (s.take i) hk (rd_T49 s (i : Int)) (by rw [rdT49 hlt]; exact hw _ (List.getElem_mem hlt))
  simp only at h1
  have step : ∀ k, scheme_Valid.l0 (k + 1) s s (s.length : Int) (i : Int) = (scheme_validTable.f k (s.take i) (rd_T49 s (i : Int)).f0 (rd_T49 s (i : Int)).f1 (rd_T49 s (i : Int)).f2 (rd_T49 s (i : Int)).f3 (rd_T49 s (i : Int)).f4).bind fun t => if t = true then scheme_Valid.l0 k s s (s.length : Int) ((i + 1 : Nat) : Int) else some false := fun k => by
   rw [scheme_Valid.l0, if_pos (by omega), if_pos (by omega), if_pos (by omega), if_pos (by omega), w1 i (by omega), Int.toNat_natCast]
  cases hb : tabB (s.take i) (rd_T49 s (i : Int)) with
  | false =>
   refine ⟨K1 + 1, fun k hk' => ?_⟩
   obtain ⟨k, rfl⟩ : ∃ m, k = m + 1 := ⟨k - 1, by omega⟩
   show scheme_Valid.l0 (k + 1) s s (s.length : Int) (i : Int) = some (tabsB s (d + 1) i)
   rw [step, h1 k (by omega), Option.bind_some, hb, if_neg (by decide), tabsB, hb]; rfl
  | true =>
   obtain ⟨K2, h2⟩ := ih (i + 1) (by omega) (take_keys hlt hk (tabB_keys hb))
   refine ⟨K1 + K2 + 1, fun k hk' => ?_⟩
   obtain ⟨k, rfl⟩ : ∃ m, k = m + 1 := ⟨k - 1, by omega⟩
   show scheme_Valid.l0 (k + 1) s s (s.length : Int) (i : Int) = some (tabsB s (d + 1) i)
   rw [step, h1 k (by omega), Option.bind_some, hb, if_pos rfl, tabsB, hb, Bool.true_and]
   exact h2 k (by omega)
theorem valid_is (s : List S49) (hw : ∀ t ∈ s, wfT t) : Ev (fun k => scheme_Valid.f k s) (validB s) := by
 unfold validB
 by_cases q : (s.length : Int) > 16
 ·refine ⟨1, fun k hk => ?_⟩
  obtain ⟨k, rfl⟩ : ∃ m, k = m + 1 := ⟨k - 1, by omega⟩
  show scheme_Valid.f (k + 1) s = _
  unfold scheme_Valid.f
  rw [if_pos q, scheme_Valid.j0, if_pos rfl, decide_eq_false (by omega)]; rfl
 ·obtain ⟨K, h⟩ := valid_l s (by omega) hw s.length 0 (by omega) (fun t h => by simp at h)
  refine ⟨K + s.length + 2, fun k hk => ?_⟩
  obtain ⟨k, rfl⟩ : ∃ m, k = m + 1 := ⟨k - 1, by omega⟩
  show scheme_Valid.f (k + 1) s = _
  have hm := mapTab_l s (by omega) s.length 0 (k + 1) [] (by omega) rfl (by omega)
  rw [show ((0 : Nat) : Int) = (0 : Int) from rfl, List.nil_append, List.drop_zero] at hm
  have hall : (s.map (·.f0)).all (fun s => decide (s.size ≤ 9223372036854775807)) = true := by
   rw [List.all_eq_true]
   intro x hs
   obtain ⟨c, hc, rfl⟩ := List.mem_map.1 hs
   exact decide_eq_true (hw c hc).1
  unfold scheme_Valid.f
  rw [if_neg q, scheme_mapTableName.f, if_pos (by omega), hm, Option.bind_some, scheme_distinct_string.f, if_pos hall, Option.bind_some, scheme_Valid.j0, decide_eq_true (by omega), Bool.true_and]
  cases hd : distP [] (s.map (·.f0)) with
  | false => rw [if_pos (by decide)]; rfl
  | true =>
   rw [if_neg (by decide), Bool.true_and]
   exact h k (by omega)
theorem colsG_is (l : List S78) : ∀ (d i : Nat), i + d = l.length → colsG l d i = ((l.drop i).all colB && distQ ((l.map (·.f0)).take i) ((l.map (·.f0)).drop i)) := by
 intro d
 induction d with
 | zero => intro i hi; rw [colsG, List.drop_eq_nil_of_le (by omega), List.drop_eq_nil_of_le (by rw [List.length_map]; omega)]; rfl
 | succ d ih =>
  intro i hi
  have h1 : i < l.length := by omega
  have h2 : i < (l.map (·.f0)).length := by rw [List.length_map]; omega
  rw [colsG, ih (i + 1) (by omega), distQ_at _ i h2, List.drop_eq_getElem_cons h1, List.all_cons, rdT78 h1, List.getElem_map]
  cases colB l[i] <;> cases memP l[i].f0 ((l.map (·.f0)).take i) <;> simp
theorem rrefs_is (s : List S49) (n : Nat) (hn : n < s.length) (hk : ∀ t ∈ s.take n, KeysIn t) (e : Bool) : ∀ l : List S75, rrefsP s n e l = some (if l.all (refB (s.take n) (rd_T49 s n).f1) = true then e else false)
 | [] => rfl
 | r :: l => by
  rw [rrefsP, refRef_is s n hn hk r, Option.bind_some, rrefs_is s n hn hk e l, List.all_cons]
  cases refB (s.take n) (rd_T49 s n).f1 r <;> simp
theorem refTable_is (s : List S49) (n : Nat) (hn : n < s.length) (hk : ∀ t ∈ s.take n, KeysIn t) :
  refTableP s n = some (tabB (s.take n) (rd_T49 s n) && !(memP (rd_T49 s n).f0 ((s.map (·.f0)).take n))) := by
 unfold refTableP tabB colsB
 rw [rrefs_is s n hn hk, colsG_is _ _ 0 (by omega), List.drop_zero, List.drop_zero, List.take_zero, ← distP_Q _ [] [] (fun x => Iff.rfl)]
 generalize rd_T49 s (n : Int) = t
 cases nmB t.f0
 ·rfl
 simp only [if_true]
 by_cases q1 : (t.f1.length : Int) > 8
 ·rw [if_pos q1, decide_eq_false (by omega)]; rfl
 rw [if_neg q1, decide_eq_true (by omega)]
 by_cases q2 : (t.f2.length : Int) > 4
 ·rw [if_pos q2, if_pos q2]; split <;> rfl
 rw [if_neg q2, if_neg q2]
 by_cases q3 : (t.f3.length : Int) > 4
 ·rw [if_pos q3, if_pos q3]; split <;> rfl
 rw [if_neg q3, if_neg q3]
 cases t.f1.all colB <;> cases distP [] (t.f1.map (·.f0)) <;> cases memP t.f0 ((s.map (·.f0)).take n) <;> cases keysB (t.f1.length : Int) t.f2 <;> cases t.f3.all (refB (s.take n) t.f1) <;> cases risB t.f4 (t.f1.length : Int) <;> rfl
theorem tabs_is (s : List S49) : ∀ (d i : Nat), i + d = s.length → (∀ t ∈ s.take i, KeysIn t) → tabsP s d i = some (tabsB s d i && distQ ((s.map (·.f0)).take i) ((s.map (·.f0)).drop i)) := by
 intro d
 induction d with
 | zero => intro i hi _; rw [tabsP, tabsB, List.drop_eq_nil_of_le (by rw [List.length_map]; omega)]; rfl
 | succ d ih =>
  intro i hi hk
  have hlt : i < s.length := by omega
  have h2 : i < (s.map (·.f0)).length := by rw [List.length_map]; omega
  rw [tabsP, refTable_is s i hlt hk, Option.bind_some, tabsB, distQ_at _ i h2, List.getElem_map, ← rdT49 hlt]
  cases hb : tabB (s.take i) (rd_T49 s (i : Int)) with
  | false => rw [Bool.false_and, if_neg (by decide)]; rfl
  | true =>
   cases hm : memP (rd_T49 s (i : Int)).f0 ((s.map (·.f0)).take i) with
   | true => rw [if_neg (by decide), if_pos rfl, Bool.and_false]
   | false => rw [if_pos (by decide), if_neg (by decide), ih (i + 1) (by omega) (take_keys hlt hk (tabB_keys hb)), Bool.true_and]
theorem refValid_is (s : List S49) : refValidP s = some (validB s) := by
 unfold refValidP validB
 by_cases q : (s.length : Int) > 16
 ·rw [if_pos q, decide_eq_false (by omega)]; rfl
 ·rw [if_neg q, tabs_is s s.length 0 (by omega) (fun t h => by simp at h), decide_eq_true (by omega), List.take_zero, List.drop_zero, ← distP_Q _ [] [] (fun x => Iff.rfl), Bool.true_and, Bool.and_comm]
end Go.Proofs.YthgfdnffnbclpaaGreatDoor.PAll
namespace Go.Proofs.YthgfdnffnbclpaaGreatDoor.PAll
open Go.RowKit Go.Proofs.YthgfdnffnbclpaaGreatDoorW.PrintWords Go.Proofs.YthgfdnffnbclpaaGreatDoorW.PrintLast Go.Proofs.YthgfdnffnbclpaaGreatDoorW.PrintMore
attribute [local go_sem] max2_int min2_int max_two min_two max_three min_three max_four min_four
attribute [local go_sem high] eqA64
def jointerref01_Valid.f (a0_0 : Int) (a0_1 : Int) (a0_2 : ByteArray) : Option (Bool) := if a0_0 = 0 then (if a0_1 = 0 then (some (a0_2.toList == ([] : List UInt8))) else (some false)) else (if a0_0 = 1 then (some (a0_2.toList == ([] : List UInt8))) else (if a0_0 = 2 then (if a0_1 = 0 then (some (decide ((a0_2.size : Int) ≤ 100))) else (some false)) else (if a0_0 = 3 then (if a0_1 = 0 then (some (a0_2.toList == ([] : List UInt8))) else (if a0_1 = 1 then (some (a0_2.toList == ([] : List UInt8))) else (some false))) else (some false))))
set_option maxHeartbeats 8000000 in
set_option maxRecDepth 100000 in
theorem jointerref01_Valid.calls (a0_0 : Int) (a0_1 : Int) (a0_2 : ByteArray) (r : Bool) (w : World) (h : jointerref01_Valid.f a0_0 a0_1 a0_2 = some r) :
  Calls Tryz.prog 163 #[.agg #[.int .u8 a0_0, .int .i64 a0_1, .string a0_2]] w fun e w' => e = .returned (.bool r) ∧ Below w.heap.size w w' := by
 unfold jointerref01_Valid.f at h
 have H := Aside0.mk h
 clear h
 go_enter Tryz.func163, Tryz.ntmps163
 go_wp2
 all_goals go_ret
 all_goals refine ⟨?_, by first | exact below_alloc (below_alloc (Below.refl _ _) _) _ | exact below_alloc (Below.refl _ _) _ | exact Below.refl _ _⟩
 all_goals (have h := H.out; clear H; first | (simp_all [nil_beq]; done) | (simp_all [nil_beq]; (repeat' split at h) <;> simp_all <;> omega))
def jointerref07_InRange.f (a0_0 : ByteArray) (a0_1 : Int) (a0_2 : Bool) (a0_3 : Int) (a0_4 : Int) (a1_0 : Int) (a1_1 : Int) (a1_2 : ByteArray) : Option (Bool) := if a0_1 = 1 then (if a0_3 ≤ a1_1 then (some (decide (a1_1 ≤ a0_4))) else (some false)) else (if a0_1 = 2 then (some (decide ((a1_2.size : Int) ≤ a0_4))) else (some true))
set_option maxHeartbeats 8000000 in
set_option maxRecDepth 100000 in
theorem jointerref07_InRange.calls (a0_0 : ByteArray) (a0_1 : Int) (a0_2 : Bool) (a0_3 : Int) (a0_4 : Int) (a1_0 : Int) (a1_1 : Int) (a1_2 : ByteArray) (r : Bool) (w : World) (h : jointerref07_InRange.f a0_0 a0_1 a0_2 a0_3 a0_4 a1_0 a1_1 a1_2 = some r) :
  Calls Tryz.prog 164 #[.agg #[.string a0_0, .int .u8 a0_1, .bool a0_2, .int .i64 a0_3, .int .i64 a0_4], .agg #[.int .u8 a1_0, .int .i64 a1_1, .string a1_2]] w fun e w' => e = .returned (.bool r) ∧ Below w.heap.size w w' := by
 unfold jointerref07_InRange.f at h
 have H := Aside0.mk h
 clear h
 go_enter Tryz.func164, Tryz.ntmps164
 go_wp2
 all_goals go_ret
 all_goals refine ⟨?_, by first | exact below_alloc (below_alloc (Below.refl _ _) _) _ | exact below_alloc (Below.refl _ _) _ | exact Below.refl _ _⟩
 all_goals (have h := H.out; clear H; first | (simp_all [nil_beq]; done) | (simp_all [nil_beq]; (repeat' split at h) <;> simp_all <;> omega))
def jointerref07_Fits.j0 : Nat → Bool → ByteArray → Int → Bool → Int → Int → Int → Int → ByteArray → Option (Int)
 | 0, _, _, _, _, _, _, _, _, _ => none
 | k + 1, x19, x172000, x172001, x172002, x172003, x172004, x173000, x173001, x173002 => if x19 = true then (some 79) else (if x173000 = 0 then (if x172002 = true then (some 74) else (some 0)) else ((jointerref07_InRange.f x172000 x172001 x172002 x172003 x172004 x173000 x173001 x173002).bind fun t174 => (if t174 = true then (some 0) else (some 75))))
def jointerref07_Fits.f (k : Nat) (a0_0 : ByteArray) (a0_1 : Int) (a0_2 : Bool) (a0_3 : Int) (a0_4 : Int) (a1_0 : Int) (a1_1 : Int) (a1_2 : ByteArray) : Option (Int) := (jointerref01_Valid.f a1_0 a1_1 a1_2).bind fun t173 => (if t173 = true then (if a1_0 = 0 then (jointerref07_Fits.j0 k false a0_0 a0_1 a0_2 a0_3 a0_4 a1_0 a1_1 a1_2) else (jointerref07_Fits.j0 k (a1_0 != a0_1) a0_0 a0_1 a0_2 a0_3 a0_4 a1_0 a1_1 a1_2)) else (jointerref07_Fits.j0 k true a0_0 a0_1 a0_2 a0_3 a0_4 a1_0 a1_1 a1_2))
set_option maxHeartbeats 8000000 in
set_option maxRecDepth 100000 in
theorem jointerref07_Fits.calls (k : Nat) (a0_0 : ByteArray) (a0_1 : Int) (a0_2 : Bool) (a0_3 : Int) (a0_4 : Int) (a1_0 : Int) (a1_1 : Int) (a1_2 : ByteArray) (r : Int) (w : World) (h : jointerref07_Fits.f k a0_0 a0_1 a0_2 a0_3 a0_4 a1_0 a1_1 a1_2 = some r) :
  Calls Tryz.prog 135 #[.agg #[.string a0_0, .int .u8 a0_1, .bool a0_2, .int .i64 a0_3, .int .i64 a0_4], .agg #[.int .u8 a1_0, .int .i64 a1_1, .string a1_2]] w fun e w' => e = .returned (.int .i64 r) ∧ Below w.heap.size w w' := by
 unfold jointerref07_Fits.f at h
 obtain ⟨b, hb, h⟩ := Option.bind_eq_some_iff.mp h
 have HV := Aside0.mk (fun W => jointerref01_Valid.calls a1_0 a1_1 a1_2 b W hb)
 have HB := Aside0.mk (fun o o2 => below_alloc (below_alloc (Below.refl w.heap.size w) o) o2)
 have HC := Aside0.mk (fun (W : World) hW => fits_cells (w := w) (W := W) (a := .string a0_0) (b := .int .u8 a0_1) (c := .bool a0_2) (d := .int .i64 a0_3) (e := .int .i64 a0_4) (f := .int .u8 a1_0) (g := .int .i64 a1_1) (h := .string a1_2) hW)
 cases k with
 | zero =>
  repeat' split at h
  all_goals (rw [jointerref07_Fits.j0] at h; cases h)
 | succ k =>
 obtain ⟨b2, hb2⟩ : ∃ b2, jointerref07_InRange.f a0_0 a0_1 a0_2 a0_3 a0_4 a1_0 a1_1 a1_2 = some b2 := by
  unfold jointerref07_InRange.f
  repeat' split
  all_goals exact ⟨_, rfl⟩
 have HI := Aside0.mk (fun W => jointerref07_InRange.calls a0_0 a0_1 a0_2 a0_3 a0_4 a1_0 a1_1 a1_2 b2 W hb2)
 simp only [jointerref07_Fits.j0, hb2, Option.bind_some] at h
 have H := Aside0.mk h
 clear h hb hb2
 cases b <;> cases b2 <;> cases a0_2
 all_goals
  go_enter Tryz.func135, Tryz.ntmps135
  go_wp2_with (first
   | (go_at_call 163; refine (HV.out _).mono ?_; rintro e w1 ⟨rfl, hb1⟩; have HB1 := Aside0.mk (below_step (HB.out _ _) hb1); obtain ⟨z0, z1, z2, z3, z4, z5, z6, z7⟩ := HC.out _ hb1; clear hb1)
   | (go_at_call 164; refine (HI.out _).mono ?_; rintro e w2 ⟨rfl, hb2⟩; have HB1 := Aside0.mk (below_step HB1.out hb2); clear hb2))
 all_goals go_ret
 all_goals refine ⟨?_, HB1.out⟩
 all_goals (have h := H.out; clear H HV HI HC; first | (simp_all; done) | (simp_all; (repeat' split at h) <;> simp_all <;> omega))
def jointerref01_Same.f (a0_0 : Int) (a0_1 : Int) (a0_2 : ByteArray) (a1_0 : Int) (a1_1 : Int) (a1_2 : ByteArray) : Option (Bool) := if a0_0 = a1_0 then (if a0_1 = a1_1 then (some (a0_2.toList == a1_2.toList)) else (some false)) else (some false)
set_option maxHeartbeats 8000000 in
set_option maxRecDepth 100000 in
theorem jointerref01_Same.calls (a0_0 : Int) (a0_1 : Int) (a0_2 : ByteArray) (a1_0 : Int) (a1_1 : Int) (a1_2 : ByteArray) (r : Bool) (w : World) (h : jointerref01_Same.f a0_0 a0_1 a0_2 a1_0 a1_1 a1_2 = some r) :
  Calls Tryz.prog 126 #[.agg #[.int .u8 a0_0, .int .i64 a0_1, .string a0_2], .agg #[.int .u8 a1_0, .int .i64 a1_1, .string a1_2]] w fun e w' => e = .returned (.bool r) ∧ Below w.heap.size w w' := by
 unfold jointerref01_Same.f at h
 have H := Aside0.mk h
 clear h
 go_enter Tryz.func126, Tryz.ntmps126
 go_wp2
 all_goals go_ret
 all_goals refine ⟨?_, by first | exact below_alloc (below_alloc (Below.refl _ _) _) _ | exact below_alloc (Below.refl _ _) _ | exact Below.refl _ _⟩
 all_goals (have h := H.out; clear H; first | (simp_all [nil_beq]; done) | (simp_all [nil_beq]; (repeat' split at h) <;> simp_all <;> omega))
def jointerref07_Full.l0 : Nat → List (S64) → List Int → Int → Option (Bool)
 | 0, _, _, _ => none
 | k + 1, x0, x1, x5 => if x5 < (x1.length : Int) then (if 0 ≤ x5 then (if 0 ≤ (rd x1 x5) then (if (rd x1 x5) < (x0.length : Int) then (if ((rd_T64 x0 (rd x1 x5)).f0) = 0 then (some false) else (jointerref07_Full.l0 k x0 x1 (wrap64 (x5 + 1)))) else (none)) else (none)) else (none)) else (some true)
def jointerref07_Full.f (k : Nat) (l0 : List (S64)) (l1 : List Int) : Option (Bool) := jointerref07_Full.l0 k l0 l1 0
set_option maxHeartbeats 8000000 in
set_option maxRecDepth 100000 in
theorem jointerref07_Full.calls (k : Nat) (A0 : Option Addr) (c0 : Nat) (l0 : List (S64)) (A1 : Option Addr) (c1 : Nat) (l1 : List Int) (r : Bool) (w : World) (hr0 : Kd.C k64 w A0 l0.length l0) (hc0 : l0.length ≤ c0) (hr1 : Kd.C (Kd.int .i64) w A1 l1.length l1) (hc1 : l1.length ≤ c1) (h : jointerref07_Full.f k l0 l1 = some r) :
  Calls Tryz.prog 165 #[.slice A0 l0.length c0, .slice A1 l1.length c1] w fun e w' => e = .returned (.bool r) ∧ Drawn0 w w' := by
 have HR0 := Aside0.mk hr0
 have HC0 := Aside0.mk hc0
 clear hr0 hc0
 have HR1 := Aside0.mk hr1
 have HC1 := Aside0.mk hc1
 clear hr1 hc1
 have H : (jointerref07_Full.l0 k l0 l1 0) = some r := h
 clear h
 have H' := Aside0.mk H
 clear H
 go_enter Tryz.func165, Tryz.ntmps165
 go_wp2
 go_loopg [5] k (fun kq v5 w' => ∃ (x5_1 : Int), v5 = .int .i64 x5_1 ∧ Aside0 (jointerref07_Full.l0 kq l0 l1 x5_1 = some r) ∧ Aside0 (kq ≤ k) ∧ Drawn0 w w')
 case atStart => exact ⟨(0), (by first | rfl | (simp; done) | (simp [*]; done)), H', ⟨Nat.le_refl _⟩, by repeat (first | exact Drawn0.refl _ | apply Drawn0.step)⟩
 case round =>
  clear H'
  try clear c1
  try clear p2
  obtain ⟨x5_1, rfl, HA, HK1, ⟨m1, rfl⟩⟩ := hrel
  cases gk with
  | zero => exact absurd HA.out (by simp [jointerref07_Full.l0])
  | succ k1 =>
   have H := HA.out
   clear HA
   simp only [jointerref07_Full.l0] at H
   by_cases c3 : x5_1 < (l1.length : Int)
   ·rw [if_pos c3] at H
    have c3b0 : decide (x5_1 < (l1.length : Int)) = true := decide_eq_true c3
    clear c3
    by_cases c4 : 0 ≤ x5_1
    ·rw [if_pos c4] at H
     have c4b0 : decide (0 ≤ x5_1) = true := decide_eq_true c4
     clear c4
     by_cases c5 : 0 ≤ (rd l1 x5_1)
     ·rw [if_pos c5] at H
      have c5b0 : decide (0 ≤ (rd l1 x5_1)) = true := decide_eq_true c5
      clear c5
      by_cases c6 : (rd l1 x5_1) < (l0.length : Int)
      ·rw [if_pos c6] at H
       have c6b0 : decide ((rd l1 x5_1) < (l0.length : Int)) = true := decide_eq_true c6
       clear c6
       by_cases c7 : ((rd_T64 l0 (rd l1 x5_1)).f0) = 0
       ·rw [if_pos c7] at H
        have c7b0 : (((rd_T64 l0 (rd l1 x5_1)).f0) == 0) = true := beq_iff_eq.mpr c7
        have c7b1 : (((rd_T64 l0 (rd l1 x5_1)).f0) != 0) = false := bne_eq_false_iff_eq.mpr c7
        clear c7
        obtain rfl := Option.some.inj H
        have p179 : 0 ≤ (x5_1 : Int) := of_decide_eq_true (by first | (with_reducible assumption) | assumption)
        have q179 : x5_1 < (l1.length : Int) := of_decide_eq_true (by first | (with_reducible assumption) | assumption)
        obtain ⟨ad179, e179, hx179_0⟩ := Kd.at_int HR1.out x5_1 p179 q179
        cases e179
        replace p179 := eq_true p179
        replace q179 := eq_true q179
        have p180 : 0 ≤ ((rd l1 x5_1) : Int) := of_decide_eq_true (by first | (with_reducible assumption) | assumption)
        have q180 : (rd l1 x5_1) < (l0.length : Int) := of_decide_eq_true (by first | (with_reducible assumption) | assumption)
        obtain ⟨ad180, e180, hx180_0, hx180_1, hx180_2⟩ := at_T64 HR0.out (rd l1 x5_1) p180 q180
        cases e180
        replace p180 := eq_true p180
        replace q180 := eq_true q180
        go_wp2
        go_ret
        exact ⟨by first | rfl | (simp; done) | (simp [*]; done), by repeat (first | exact Drawn0.refl _ | apply Drawn0.step)⟩
       ·rw [if_neg c7] at H
        have c7b0 : (((rd_T64 l0 (rd l1 x5_1)).f0) == 0) = false := beq_eq_false_iff_ne.mpr c7
        have c7b1 : (((rd_T64 l0 (rd l1 x5_1)).f0) != 0) = true := bne_iff_ne.mpr c7
        have H' := Aside0.mk H
        clear H
        have p179 : 0 ≤ (x5_1 : Int) := of_decide_eq_true (by first | (with_reducible assumption) | assumption)
        have q179 : x5_1 < (l1.length : Int) := of_decide_eq_true (by first | (with_reducible assumption) | assumption)
        obtain ⟨ad179, e179, hx179_0⟩ := Kd.at_int HR1.out x5_1 p179 q179
        cases e179
        replace p179 := eq_true p179
        replace q179 := eq_true q179
        have p180 : 0 ≤ ((rd l1 x5_1) : Int) := of_decide_eq_true (by first | (with_reducible assumption) | assumption)
        have q180 : (rd l1 x5_1) < (l0.length : Int) := of_decide_eq_true (by first | (with_reducible assumption) | assumption)
        obtain ⟨ad180, e180, hx180_0, hx180_1, hx180_2⟩ := at_T64 HR0.out (rd l1 x5_1) p180 q180
        cases e180
        replace p180 := eq_true p180
        replace q180 := eq_true q180
        go_wp2
        go_roundg k1
        case measure => have := HK1.out; omega
        case rel => exact ⟨(wrap64 (x5_1 + 1)), (by first | rfl | (simp; done) | (simp [*]; done)), H', ⟨by have := HK1.out; omega⟩, by repeat (first | exact Drawn0.refl _ | apply Drawn0.step)⟩
      ·rw [if_neg c6] at H
       exact absurd H (by simp)
     ·rw [if_neg c5] at H
      exact absurd H (by simp)
    ·rw [if_neg c4] at H
     exact absurd H (by simp)
   ·rw [if_neg c3] at H
    have c3b0 : decide (x5_1 < (l1.length : Int)) = false := decide_eq_false c3
    clear c3
    obtain rfl := Option.some.inj H
    go_wp2
    go_ret
    exact ⟨by first | rfl | (simp; done) | (simp [*]; done), by repeat (first | exact Drawn0.refl _ | apply Drawn0.step)⟩
end Go.Proofs.YthgfdnffnbclpaaGreatDoor.PAll
namespace Go.Proofs.YthgfdnffnbclpaaGreatDoor.PAll
open Go.RowKit Go.Proofs.YthgfdnffnbclpaaGreatDoorW.PrintWords Go.Proofs.YthgfdnffnbclpaaGreatDoorW.PrintLast Go.Proofs.YthgfdnffnbclpaaGreatDoorW.PrintMore
def valP (x : S64) : Bool :=
 if x.f0 = 0 then (x.f1 == 0 && x.f2.toList == []) else if x.f0 = 1 then x.f2.toList == [] else if x.f0 = 2 then (x.f1 == 0 && decide ((x.f2.size : Int) ≤ 100)) else if x.f0 = 3 then (x.f2.toList == [] && decide (IntKind.u64.wrap x.f1 ≤ 1)) else false
set_option maxRecDepth 100000 in
theorem value_Valid_walk (x : S64) (w : World) :
  Calls Tryz.prog 159 #[.agg #[.int .u8 x.f0, .int .i64 x.f1, .string x.f2]] w fun e w' => e = .returned (.bool (valP x)) ∧ Below w.heap.size w w' := by
 have hu64 := Tryz.underlying87
 have HB : Aside0 (∀ o, Below w.heap.size w (w.alloc o)) := ⟨fun o => (Below.refl _ _).alloc (Nat.le_refl _) _⟩
 unfold valP
 by_cases q0 : x.f0 = 0
 ·have d0 : (x.f0 == 0) = true := beq_iff_eq.mpr q0
  rw [if_pos q0]
  clear q0
  go_enter Tryz.func159, Tryz.ntmps159
  go_wp2
  all_goals (go_ret; exact ⟨by simp_all, HB.out _⟩)
 ·have d0 : (x.f0 == 0) = false := beq_eq_false_iff_ne.mpr q0
  rw [if_neg q0]
  clear q0
  by_cases q1 : x.f0 = 1
  ·have d1 : (x.f0 == 1) = true := beq_iff_eq.mpr q1
   rw [if_pos q1]
   clear q1
   go_enter Tryz.func159, Tryz.ntmps159
   go_wp2
   go_ret
   exact ⟨by first | rfl | (simp [*]; done), HB.out _⟩
  ·have d1 : (x.f0 == 1) = false := beq_eq_false_iff_ne.mpr q1
   rw [if_neg q1]
   clear q1
   by_cases q2 : x.f0 = 2
   ·have d2 : (x.f0 == 2) = true := beq_iff_eq.mpr q2
    rw [if_pos q2]
    clear q2
    cases d3 : (x.f1 == 0) <;> (go_enter Tryz.func159, Tryz.ntmps159; go_wp2; go_ret; exact ⟨by first | rfl | (simp [*]; done), HB.out _⟩)
   ·have d2 : (x.f0 == 2) = false := beq_eq_false_iff_ne.mpr q2
    rw [if_neg q2]
    clear q2
    by_cases q3 : x.f0 = 3
    ·have d3 : (x.f0 == 3) = true := beq_iff_eq.mpr q3
     rw [if_pos q3]
     clear q3
     cases d4 : (x.f2.toList == []) <;> (go_enter Tryz.func159, Tryz.ntmps159; go_wp2; go_ret; exact ⟨by first | rfl | (simp [*]; done), HB.out _⟩)
    ·have d3 : (x.f0 == 3) = false := beq_eq_false_iff_ne.mpr q3
     rw [if_neg q3]
     clear q3
     go_enter Tryz.func159, Tryz.ntmps159
     go_wp2
     go_ret
     exact ⟨by first | rfl | (simp [*]; done), HB.out _⟩
def fitsP (c : S78) (x : S64) : Int :=
  if valP x = true then
    (if (x.f0 == 0) = true then (if c.f2 = true then 74 else 0)
     else if (x.f0 == c.f1) = true then
      (if (x.f0 == 1) = true then (if decide (x.f1 < c.f3) = true then 75 else if decide (c.f4 < x.f1) = true then 75 else 0)
       else if (x.f0 == 2) = true then (if decide (c.f4 < (x.f2.size : Int)) = true then 75 else 0) else 0)
     else 79)
  else 79
set_option maxRecDepth 100000 in
theorem fits_walk (c : S78) (x : S64) (w : World) :
  Calls Tryz.prog 124 #[.agg #[.string c.f0, .int .u8 c.f1, .bool c.f2, .int .i64 c.f3, .int .i64 c.f4], .agg #[.int .u8 x.f0, .int .i64 x.f1, .string x.f2]] w fun e w' => e = .returned (.int .i64 (fitsP c x)) ∧ Below w.heap.size w w' := by
 obtain ⟨E, hE⟩ : ∃ E, E = (w.alloc (Obj.cells #[.string c.f0, .int .u8 c.f1, .bool c.f2, .int .i64 c.f3, .int .i64 c.f4] 83)).alloc (Obj.cells #[.int .u8 x.f0, .int .i64 x.f1, .string x.f2] 87) := ⟨_, rfl⟩
 obtain ⟨gb, hgb⟩ : ∃ g, g = w.heap.size := ⟨_, rfl⟩
 have HE : Aside0 (∀ W, Below E.heap.size E W → Below w.heap.size w W) := ⟨fun W hW => below_step (by rw [hE]; exact ((Below.refl _ _).alloc (Nat.le_refl _) _).alloc (by simp) _) hW⟩
 have HGB : E.heap[gb]? = some (.cells #[.string c.f0, .int .u8 c.f1, .bool c.f2, .int .i64 c.f3, .int .i64 c.f4] 83 (0, 0)) := by rw [hE, hgb, Go.Deep.blk_alloc_lt _ _ _ (by simp)]; exact Go.Deep.blk_alloc_new w _
 have HGT : E.heap[gb + 1]? = some (.cells #[.int .u8 x.f0, .int .i64 x.f1, .string x.f2] 87 (0, 0)) := by rw [hE, hgb]; have := Go.Deep.blk_alloc_new (w.alloc (Obj.cells #[.string c.f0, .int .u8 c.f1, .bool c.f2, .int .i64 c.f3, .int .i64 c.f4] 83)) (Obj.cells #[.int .u8 x.f0, .int .i64 x.f1, .string x.f2] 87); simpa using this
 have FC : Aside0 (∀ W, Below E.heap.size E W → W.cell? ⟨gb, 1, none⟩ = some (.int .u8 c.f1) ∧ W.cell? ⟨gb, 2, none⟩ = some (.bool c.f2) ∧ W.cell? ⟨gb, 3, none⟩ = some (.int .i64 c.f3) ∧ W.cell? ⟨gb, 4, none⟩ = some (.int .i64 c.f4) ∧ W.cell? ⟨gb + 1, 0, none⟩ = some (.int .u8 x.f0) ∧ W.cell? ⟨gb + 1, 1, none⟩ = some (.int .i64 x.f1) ∧ W.cell? ⟨gb + 1, 2, none⟩ = some (.string x.f2)) := ⟨fun W hW => by
  have h1 := (hW.block _ (blk_lt HGB)).trans HGB
  have h2 := (hW.block _ (blk_lt HGT)).trans HGT
  exact ⟨(blk_cell h1 1).trans rfl, (blk_cell h1 2).trans rfl, (blk_cell h1 3).trans rfl, (blk_cell h1 4).trans rfl, (blk_cell h2 0).trans rfl, (blk_cell h2 1).trans rfl, (blk_cell h2 2).trans rfl⟩⟩
 clear HGB HGT
 have HV := Aside0.mk (value_Valid_walk x E)
 obtain ⟨r, hr⟩ : ∃ r, r = fitsP c x := ⟨_, rfl⟩
 rw [← hr]
 have HRQ := Aside0.mk hr
 clear hr
 subst hE
 subst hgb
 go_enter Tryz.func124, Tryz.ntmps124
 go_upto_region 1 with (fail)
 generalize (w.alloc (Obj.cells #[.string c.f0, .int .u8 c.f1, .bool c.f2, .int .i64 c.f3, .int .i64 c.f4] 83)).alloc (Obj.cells #[.int .u8 x.f0, .int .i64 x.f1, .string x.f2] 87) = E at *
 obtain ⟨e1, e2, e3, e4, e5, e6, e7⟩ := FC.out E (Below.refl _ _)
 cases dv : valP x
 ·rw [dv] at HV
  have DV := Aside0.mk dv
  clear dv
  go_wp2_with (go_at_call 159; refine HV.out.mono ?_; rintro e w1 ⟨rfl, hb1⟩; clear e1 e2 e3 e4 e5 e6 e7; obtain ⟨e1, e2, e3, e4, e5, e6, e7⟩ := FC.out w1 hb1)
  go_ret
  exact ⟨by rw [HRQ.out]; simp [fitsP, DV.out, *], HE.out _ hb1⟩
 rw [dv] at HV
 have DV := Aside0.mk dv
 clear dv
 cases d0 : (x.f0 == 0)
 ·have n0 : (x.f0 != 0) = true := by rw [bne, d0]; rfl
  cases d1 : (x.f0 == c.f1)
  ·have n1 : (x.f0 != c.f1) = true := by rw [bne, d1]; rfl
   go_wp2_with (go_at_call 159; refine HV.out.mono ?_; rintro e w1 ⟨rfl, hb1⟩; clear e1 e2 e3 e4 e5 e6 e7; obtain ⟨e1, e2, e3, e4, e5, e6, e7⟩ := FC.out w1 hb1)
   go_ret
   exact ⟨by rw [HRQ.out]; simp [fitsP, DV.out, *], HE.out _ hb1⟩
  ·have n1 : (x.f0 != c.f1) = false := by rw [bne, d1]; rfl
   cases d2 : (x.f0 == 1)
   ·cases d3 : (x.f0 == 2)
    ·go_wp2_with (go_at_call 159; refine HV.out.mono ?_; rintro e w1 ⟨rfl, hb1⟩; clear e1 e2 e3 e4 e5 e6 e7; obtain ⟨e1, e2, e3, e4, e5, e6, e7⟩ := FC.out w1 hb1)
     go_ret
     exact ⟨by rw [HRQ.out]; simp [fitsP, DV.out, *], HE.out _ hb1⟩
    ·cases d4 : decide (c.f4 < (x.f2.size : Int))
     ·go_wp2_with (go_at_call 159; refine HV.out.mono ?_; rintro e w1 ⟨rfl, hb1⟩; clear e1 e2 e3 e4 e5 e6 e7; obtain ⟨e1, e2, e3, e4, e5, e6, e7⟩ := FC.out w1 hb1)
      go_ret
      exact ⟨by rw [HRQ.out]; simp [fitsP, DV.out, *], HE.out _ hb1⟩
     ·go_wp2_with (go_at_call 159; refine HV.out.mono ?_; rintro e w1 ⟨rfl, hb1⟩; clear e1 e2 e3 e4 e5 e6 e7; obtain ⟨e1, e2, e3, e4, e5, e6, e7⟩ := FC.out w1 hb1)
      go_ret
      exact ⟨by rw [HRQ.out]; simp [fitsP, DV.out, *], HE.out _ hb1⟩
   ·have d9 : (x.f0 == 2) = false := by rw [beq_iff_eq] at d2; rw [d2]; rfl
    cases d3 : decide (x.f1 < c.f3)
    ·cases d4 : decide (c.f4 < x.f1)
     ·go_wp2_with (go_at_call 159; refine HV.out.mono ?_; rintro e w1 ⟨rfl, hb1⟩; clear e1 e2 e3 e4 e5 e6 e7; obtain ⟨e1, e2, e3, e4, e5, e6, e7⟩ := FC.out w1 hb1)
      go_ret
      exact ⟨by rw [HRQ.out]; simp [fitsP, DV.out, *], HE.out _ hb1⟩
     ·go_wp2_with (go_at_call 159; refine HV.out.mono ?_; rintro e w1 ⟨rfl, hb1⟩; clear e1 e2 e3 e4 e5 e6 e7; obtain ⟨e1, e2, e3, e4, e5, e6, e7⟩ := FC.out w1 hb1)
      go_ret
      exact ⟨by rw [HRQ.out]; simp [fitsP, DV.out, *], HE.out _ hb1⟩
    ·go_wp2_with (go_at_call 159; refine HV.out.mono ?_; rintro e w1 ⟨rfl, hb1⟩; clear e1 e2 e3 e4 e5 e6 e7; obtain ⟨e1, e2, e3, e4, e5, e6, e7⟩ := FC.out w1 hb1)
     go_ret
     exact ⟨by rw [HRQ.out]; simp [fitsP, DV.out, *], HE.out _ hb1⟩
 ·have n0 : (x.f0 != 0) = false := by rw [bne, d0]; rfl
  have d8 : (x.f0 == 1) = false := by rw [beq_iff_eq] at d0; rw [d0]; rfl
  have d9 : (x.f0 == 2) = false := by rw [beq_iff_eq] at d0; rw [d0]; rfl
  cases d1 : c.f2
  ·go_wp2_with (go_at_call 159; refine HV.out.mono ?_; rintro e w1 ⟨rfl, hb1⟩; clear e1 e2 e3 e4 e5 e6 e7; obtain ⟨e1, e2, e3, e4, e5, e6, e7⟩ := FC.out w1 hb1)
   go_ret
   exact ⟨by rw [HRQ.out]; simp [fitsP, DV.out, *], HE.out _ hb1⟩
  ·go_wp2_with (go_at_call 159; refine HV.out.mono ?_; rintro e w1 ⟨rfl, hb1⟩; clear e1 e2 e3 e4 e5 e6 e7; obtain ⟨e1, e2, e3, e4, e5, e6, e7⟩ := FC.out w1 hb1)
   go_ret
   exact ⟨by rw [HRQ.out]; simp [fitsP, DV.out, *], HE.out _ hb1⟩
end Go.Proofs.YthgfdnffnbclpaaGreatDoor.PAll
