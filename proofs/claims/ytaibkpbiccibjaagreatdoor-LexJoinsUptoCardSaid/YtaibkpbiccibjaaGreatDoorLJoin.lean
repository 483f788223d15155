/- lex.Join: a source that has given tokens. -/
import Derived.Test.YtaibkpbiccibjaaGreatDoorLValid
import Derived.Test.YtaibkpbiccibjaaGreatDoorShelfB
import Derived.Test.YtaibkpbiccibjaaGreatDoorLText
import Derived.Lib.ReplaceLaws
set_option linter.unusedVariables false
namespace Go.Proofs.YtaibkpbiccibjaaGreatDoor.PQ
open Go.Proofs.YtaibkpbiccibjaaGreatDoor.Lx (qt)
/-! ### Index and cut at one byte -/
theorem ix_nil (c : UInt8) : Lib.index [] [c] = -1 := by rw [Lib.index_one]; rfl
theorem ix_hit (c : UInt8) (t : List UInt8) : Lib.index (c :: t) [c] = 0 := by rw [Lib.index_one]; simp [Lib.indexByte]
theorem ix_miss (c d : UInt8) (t : List UInt8) (h : d ≠ c) : Lib.index (d :: t) [c] = if Lib.index t [c] = -1 then -1 else Lib.index t [c] + 1 := by
  rw [Lib.index_one, Lib.index_one]; simp [Lib.indexByte, h]
theorem ix_spec : ∀ s : List UInt8, (Lib.index s [39] = -1 ∧ (39 : UInt8) ∉ s) ∨ ∃ a b, s = a ++ 39 :: b ∧ (39 : UInt8) ∉ a ∧ Lib.index s [39] = (a.length : Int)
  | [] => .inl ⟨ix_nil _, by simp⟩
  | d :: t => by
    by_cases hd : d = 39
    · subst hd
      exact .inr ⟨[], t, rfl, by simp, by rw [ix_hit]; rfl⟩
    · rw [ix_miss _ _ _ hd]
      rcases ix_spec t with ⟨h1, h2⟩ | ⟨a, b, h1, h2, h3⟩
      · rw [if_pos h1]
        exact .inl ⟨rfl, by simp [h2]; exact fun e => hd e.symm⟩
      · refine .inr ⟨d :: a, b, by rw [h1]; rfl, by simp [h2]; exact fun e => hd e.symm, ?_⟩
        rw [h3, if_neg (by omega)]
        simp
theorem qt_none : ∀ s : List UInt8, (39 : UInt8) ∉ s → qt s = s
  | [], _ => rfl
  | c :: t, h => by
    have h1 : c ≠ 39 := fun e => h (by simp [e])
    have h2 : (39 : UInt8) ∉ t := fun e => h (by simp [e])
    simp [qt, h1, qt_none t h2]
theorem qt_app : ∀ a b : List UInt8, (39 : UInt8) ∉ a → qt (a ++ b) = a ++ qt b
  | [], b, _ => rfl
  | c :: t, b, h => by
    have h1 : c ≠ 39 := fun e => h (by simp [e])
    have h2 : (39 : UInt8) ∉ t := fun e => h (by simp [e])
    simp [qt, h1, qt_app t b h2]
theorem replK : ∀ (k : Nat) (s : List UInt8), s.count 39 ≤ k → Lib.replaceK [39] [39, 39] k s = qt s
  | 0, s, h => by
    have : (39 : UInt8) ∉ s := List.count_eq_zero.1 (by omega)
    rw [qt_none _ this]; rfl
  | k + 1, s, h => by
    unfold Lib.replaceK
    rcases ix_spec s with ⟨h1, h2⟩ | ⟨a, b, h1, h2, h3⟩
    · rw [h1, if_pos (by decide), qt_none _ h2]
    · rw [h3, if_neg (by simp)]
      have hb : b.count 39 ≤ k := by
        have e := congrArg (List.count 39) h1
        rw [List.count_append, List.count_cons_self] at e
        omega
      rw [show ((a.length : Int)).toNat = a.length by omega, h1, qt_app _ _ h2]
      have e1 : (a ++ 39 :: b).take a.length = a := by simp
      have e2 : (a ++ 39 :: b).drop (a.length + ([39] : List UInt8).length) = b := by
        rw [show a.length + ([39] : List UInt8).length = a.length + 1 by rfl, ← List.drop_drop]; simp
      rw [e1, e2, replK k b hb]
      simp [qt]
theorem replaceAll_qt (s : List UInt8) : Lib.replaceAll s [39] [39, 39] = qt s := by
  unfold Lib.replaceAll Lib.replace
  rw [if_neg (by decide)]
  refine replK _ _ ?_
  unfold Lib.replaceNum
  rw [if_pos (by left; decide), Lib.count_one]
  exact Nat.le_refl _
theorem qt_len2 : ∀ l : List UInt8, (qt l).length ≤ 2 * l.length
  | [] => by simp [qt]
  | c :: t => by
    have := qt_len2 t
    unfold qt
    split <;> simp <;> omega
end Go.Proofs.YtaibkpbiccibjaaGreatDoor.PQ

namespace Go.Proofs.YtaibkpbiccibjaaGreatDoor.PAll
open Go.RowKit Go.Proofs.YtaibkpbiccibjaaGreatDoorW.PrintWords Go.Proofs.YtaibkpbiccibjaaGreatDoorW.PrintLast Go.Proofs.YtaibkpbiccibjaaGreatDoorW.PrintMore

/-- bytealg.MaxLen holds a number. -/
def MaxL (w : World) : Prop := ∃ m : Int, w.cell? ⟨1, 0, none⟩ = some (.int .i64 m)
theorem MaxL.below {w0 w : World} (h : Aside0 (MaxL w0)) (hb : Below w0.heap.size w0 w) : MaxL w := by
  obtain ⟨m, hm⟩ := h.out
  exact ⟨m, cell_below hb hm⟩
theorem replace_calls (s : ByteArray) (w : World) (hM : MaxL w) (hs : s.size ≤ 100) :
    Calls Tryz.prog 13 #[.string s, .string ⟨#[39]⟩, .string ⟨#[39, 39]⟩] w fun e w' => e = .returned (.string ⟨(Lib.replaceAll s.data.toList [39] [39, 39]).toArray⟩) ∧ Below w.heap.size w w' := by
  obtain ⟨m, hm⟩ := hM
  exact Tryz.strings_ReplaceAll s ⟨#[39]⟩ ⟨#[39, 39]⟩ m w (by omega) hm (by decide) (by
    have h1 : Lib.countB s ⟨#[39]⟩ ≤ s.size := Lib.countB_le ⟨#[39]⟩ (by decide) s.size s (Nat.le_refl _)
    show s.size + Lib.countB s ⟨#[39]⟩ * 2 ≤ _
    omega)
theorem contains_calls (s : ByteArray) (w : World) (hM : MaxL w) :
    Calls Tryz.prog 14 #[.string ⟨#[44, 41, 46, 59]⟩, .string s] w fun e w' => e = .returned (.bool (Lib.contains [44, 41, 46, 59] s.data.toList)) ∧ w' = w := by
  obtain ⟨m, hm⟩ := hM
  exact Tryz.strings_Contains ⟨#[44, 41, 46, 59]⟩ s m w (by decide) hm

theorem lex_valid.calls (kd : Int) (t : ByteArray) (pos : Int) (w : World) (hL : LaidL w) :
    Calls Tryz.prog 12 #[.agg #[.int .u8 kd, .string t, .int .i64 pos]] w fun e w' => e = .returned (.bool (validR kd t)) ∧ Below w.heap.size w w' := by
  unfold validR
  by_cases hk : kd = 4
  · subst hk
    rw [if_pos rfl]
    exact valid_text t pos w
  rw [if_neg hk]
  by_cases h0 : 0 < t.size
  · rw [dif_pos h0]
    by_cases h4 : 4000 < t.size
    · rw [if_pos h4]
      exact valid_short kd t pos w hk (.inr h4)
    · rw [if_neg h4]
      by_cases hc : cls t[0] = 1
      · rw [if_pos hc]
        exact valid_blank kd t pos w hk h0 (by omega) hc
      · rw [if_neg hc]
        refine (valid_next kd t pos w hL hk h0 (by omega) hc).mono ?_
        rintro e w' ⟨rfl, hb⟩
        refine ⟨?_, hb⟩
        congr 2
        unfold nextR
        rw [List.drop_zero]
        cases ht : Lx.tokL isKw marksL t.data.toList with
        | bad er =>
          have := tokL_bad ht
          simp [this]
        | good k x n =>
          simp [Lib.toList_data]
  · rw [dif_neg h0]
    exact valid_short kd t pos w hk (.inl (by omega))

theorem bldAt_below {B b : Nat} {p : Value} {bs : List Value} {W W' : World} (h : Lib.BuilderAtF 40 5 B b p bs W) (hb : Below W.heap.size W W') : Lib.BuilderAtF 40 5 B b p bs W' := by
  obtain ⟨hB, v, hv, hown, hne⟩ := h
  exact ⟨hB, v, (hb.block b (blk_lt hv)).trans hv, hown.kept (row := none) ⟨hb.os, hb.tape, hb.output, hb.size, fun k hk _ => hb.block k hk⟩ (Classical.em _), hne⟩
theorem bld_below {B b : Nat} {bs : List Value} {W W' : World} (h : Lib.IsBuilderF 40 5 B b bs W) (hb : Below W.heap.size W W') : Lib.IsBuilderF 40 5 B b bs W' :=
  h.elim (fun x => .inl (bldAt_below x hb)) (fun x => .inr (bldAt_below x hb))

/-! ### What Join writes -/
def txtB (x : S33) : ByteArray := if x.f0 = 4 then ((⟨#[39]⟩ : ByteArray) ++ ⟨(Lib.replaceAll x.f1.data.toList [39] [39, 39]).toArray⟩) ++ (⟨#[39]⟩ : ByteArray) else x.f1
def sepP (g : Bool) (x : S33) : Bool := !g && !(decide (x.f0 = 5) && Lib.contains [44, 41, 46, 59] (txtB x).data.toList)
def glueP (x : S33) : Bool := decide (x.f0 = 5) && (decide ((txtB x).data.toList = [40]) || decide ((txtB x).data.toList = [46]))
def joinP : Bool → List S33 → List UInt8
  | _, [] => []
  | g, x :: r => (if sepP g x = true then [32] else []) ++ (txtB x).data.toList ++ joinP (glueP x) r
def okP (x : S33) : Bool := validR x.f0 x.f1
def resP (l : List S33) : ByteArray × Int :=
  if l.all okP = true then (if 4000 < (joinP true l).length then (⟨#[]⟩, 2) else (⟨(joinP true l).toArray⟩, 0)) else (⟨#[]⟩, 1)

theorem ok_text {x : S33} (h : okP x = true) (h4 : x.f0 = 4) : x.f1.size ≤ 100 := by
  unfold okP validR at h
  rw [if_pos h4] at h
  simpa using h

set_option maxHeartbeats 8000000 in
set_option maxRecDepth 100000 in
theorem join_calls (A : Option Addr) (c : Nat) (l : List S33) (w : World) (hL : LaidL w) (hM : MaxL w) (hC : Kd.C k33 w A l.length l) (hc : l.length ≤ c) (hlen : l.length ≤ 4398046511104) (hsz : (joinP true l).length + 1 ≤ 140737488355328) :
    Calls Tryz.prog 5 #[.slice A l.length c] w fun e w' => e = .returned (.tuple #[.string (resP l).1, .int .i64 (resP l).2]) ∧ Below w.heap.size w w' := by
  obtain ⟨B, hBd⟩ : ∃ B, B = w.heap.size := ⟨_, rfl⟩
  have HL := Aside0.mk hL
  have HM := Aside0.mk hM
  have HC := Aside0.mk hC
  have HSZ := Aside0.mk hsz
  have HLEN := Aside0.mk hlen
  clear hL hM hC hsz hlen
  go_enter Tryz.func5, Tryz.ntmps5
  go_wp2
  have hbld : Lib.IsBuilderF 40 5 B B (Lib.byteCells []) (w.alloc (Obj.cells #[Value.pointer none, Value.slice none 0 0] 40)) := by
    have := Lib.fresh_isBuilder 40 5 w
    rw [hBd]
    exact Lib.IsBuilderF.of this
  have hbel : Below w.heap.size w (w.alloc (Obj.cells #[Value.pointer none, Value.slice none 0 0] 40)) := (Below.refl _ _).alloc (Nat.le_refl _) _
  have hsz1 : B + 1 ≤ (w.alloc (Obj.cells #[Value.pointer none, Value.slice none 0 0] 40)).heap.size := by simp [hBd]
  generalize (w.alloc (Obj.cells #[Value.pointer none, Value.slice none 0 0] 40)) = W1 at *
  rw [← hBd] at hbel ⊢
  have HBD := Aside0.mk hBd
  have HBL := Aside0.mk hbel
  have HS1 := Aside0.mk hsz1
  clear hBd hbel hsz1
  go_loopg [5, 12] l.length (fun gk v5 v12 wx => ∃ (i : Nat) (g : Bool) (o : List UInt8), i + gk = l.length ∧ v5 = .bool g ∧ v12 = .int .i64 i ∧ Aside0 (Lib.IsBuilderF 40 5 B B (Lib.byteCells o) wx) ∧ Aside0 (Below B w wx) ∧ Aside0 (B + 1 ≤ wx.heap.size) ∧
    Aside0 (joinP true l = o ++ joinP g (l.drop i)) ∧ Aside0 (l.all okP = (l.drop i).all okP))
  case atStart => exact ⟨0, true, [], by omega, rfl, rfl, ⟨hbld⟩, HBL, HS1, ⟨by simp⟩, ⟨by simp⟩⟩
  case round =>
    clear hbld
    obtain ⟨i, g, o, hi, rfl, rfl, HO, HW, HS, HJ, HV⟩ := hrel
    have HWS := HW
    cases gk with
    | zero =>
      have e : l.drop i = [] := List.drop_eq_nil_of_le (by omega)
      have hJ := HJ.out
      have hV := HV.out
      rw [e] at hJ hV
      have hJ2 : joinP true l = o := by rw [hJ]; simp [joinP]
      have HR : Aside0 (resP l = if 4000 < o.length then (⟨#[]⟩, 2) else (⟨o.toArray⟩, 0)) := ⟨by unfold resP; rw [hV, hJ2]; rfl⟩
      have hBs : B ≤ wr.heap.size := by have := HS.out; omega
      have HLN : Aside0 (Calls Tryz.prog 17 #[.pointer (some ⟨B, 0, none⟩)] wr fun e w' => e = .returned (.int .i64 o.length) ∧ w' = wr) := by
        have := Tryz.Builder_Len_f B B _ wr HO.out
        rw [Lib.byteCells_length] at this
        exact ⟨this⟩
      have HST : Aside0 (Calls Tryz.prog 18 #[.pointer (some ⟨B, 0, none⟩)] wr fun e w' => e = .returned (.string ⟨o.toArray⟩) ∧ Below B wr w') :=
        ⟨(Tryz.Builder_String_any_f B B o wr HO.out hBs).mono fun e w' h => ⟨h.1, h.2.2⟩⟩
      generalize hq : o.length = q at *
      clear hJ hV hJ2 e HJ HV
      have hii : ¬ (i : Int) < (l.length : Int) := by omega
      by_cases hq4 : 4000 < q
      · have hR : resP l = (⟨#[]⟩, 2) := by rw [HR.out, if_pos hq4]
        have hqi : (4000 : Int) < (q : Int) := by omega
        go_wp2_with (go_at_call 17; refine HLN.out.mono ?_; rintro e w' ⟨rfl, hw'⟩; rw [hw'])
        go_ret2
        exact ⟨by rw [hR]; rfl, by rw [← HBD.out]; exact HWS.out⟩
      · have hR : resP l = (⟨o.toArray⟩, 0) := by rw [HR.out, if_neg hq4]
        have hqi : ¬ (4000 : Int) < (q : Int) := by omega
        go_wp2_with (first | (go_at_call 17; refine HLN.out.mono ?_; rintro e w' ⟨rfl, hw'⟩; rw [hw']) | (go_at_call 18; refine HST.out.mono ?_; rintro e w3 ⟨rfl, hw3⟩))
        go_ret2
        exact ⟨by rw [hR]; rfl, by rw [← HBD.out]; exact HWS.out.trans hw3⟩
    | succ gk =>
      have hlt : i < l.length := by omega
      have hii : (i : Int) < (l.length : Int) := by omega
      have hi0 : (0 : Int) ≤ (i : Int) := by omega
      have hdr : l.drop i = l[i] :: l.drop (i + 1) := List.drop_eq_getElem_cons hlt
      have hrd : rd_T33 l (i : Int) = l[i] := by unfold rd_T33; simp [List.getD, hlt]
      obtain ⟨ad, hA, hx0, hx1, hx2⟩ := at_T33 HC.out (i : Int) hi0 hii
      cases hA
      rw [hrd, Int.toNat_natCast] at hx0 hx1 hx2
      have hwB : Below w.heap.size w wr := by rw [← HBD.out]; exact HWS.out
      have hr0 := cell_below hwB hx0
      have hr1 := cell_below hwB hx1
      have hr2 := cell_below hwB hx2
      have hJ := HJ.out
      have hV := HV.out
      rw [hdr] at hJ hV
      rw [List.all_cons] at hV
      rw [joinP] at hJ
      generalize hx : l[i] = x at *
      have hBs : B + 1 ≤ wr.heap.size := HS.out
      have hbb : Below w.heap.size w (wr.alloc (Obj.cells #[.int .u8 x.f0, .string x.f1, .int .i64 x.f2] 34)) := below_alloc hwB _
      have HVL : Aside0 (Calls Tryz.prog 12 #[.agg #[.int .u8 x.f0, .string x.f1, .int .i64 x.f2]] (wr.alloc (Obj.cells #[.int .u8 x.f0, .string x.f1, .int .i64 x.f2] 34)) fun e w' => e = .returned (.bool (okP x)) ∧
          Below B wr w' ∧ w'.heap[wr.heap.size]? = some (.cells #[.int .u8 x.f0, .string x.f1, .int .i64 x.f2] 34 (0, 0)) ∧ Lib.IsBuilderF 40 5 B B (Lib.byteCells o) w' ∧ B + 1 ≤ w'.heap.size) := by
        refine ⟨(lex_valid.calls x.f0 x.f1 x.f2 _ (LaidL.below HL hbb)).mono ?_⟩
        rintro e w' ⟨rfl, h⟩
        have hal : Below wr.heap.size wr (wr.alloc (Obj.cells #[.int .u8 x.f0, .string x.f1, .int .i64 x.f2] 34)) := below_alloc (Below.refl _ _) _
        have h' := h
        rw [World.size_alloc] at h'
        refine ⟨rfl, (below_lower hal (by omega)).trans (below_lower h' (by omega)), blk_below (blk_new wr _) h, bld_below (bld_below HO.out hal) h, ?_⟩
        have hz := h'.size
        rw [World.size_alloc] at hz
        omega
      clear hbb hrd hwB hdr HJ HV
      have HJ := Aside0.mk hJ
      have HV := Aside0.mk hV
      clear hJ hV
      cases hok : okP x with
      | false =>
        rw [hok] at HVL
        have hR : resP l = (⟨#[]⟩, 1) := by
          have := HV.out
          rw [hok] at this
          unfold resP
          rw [this]; rfl
        go_wp2_with (go_at_call 12; refine HVL.out.mono ?_; rintro e w5 ⟨rfl, hb5, _, _, _⟩)
        go_ret2
        refine ⟨by rw [hR]; rfl, ?_⟩
        rw [← HBD.out]
        exact HWS.out.trans hb5
      | true =>
        rw [hok] at HVL
        have HOK := Aside0.mk hok
        have hlen : (joinP true l).length + 1 ≤ 140737488355328 := HSZ.out
        have HLO : Aside0 (o.length + ((if sepP g x = true then [32] else []) ++ (txtB x).data.toList).length ≤ 140737488355328) := by
          rw [HJ.out] at hlen
          rw [List.length_append, List.length_append] at hlen
          exact ⟨by omega⟩
        clear hlen hok
        have hBn : B ≤ wr.heap.size := by omega
        have HTK := Aside0.mk hx
        clear hx0 hx1 hx2
        obtain ⟨tb, htb⟩ : ∃ tb, tb = txtB x := ⟨_, rfl⟩
        have HTB := Aside0.mk htb
        go_upto_if 26 with (go_at_call 12; refine HVL.out.mono ?_; rintro e w5 ⟨rfl, hb5, hX5, hO5, hs5⟩; have y0 : w5.cell? ⟨wr.heap.size, 0, none⟩ = some (.int .u8 x.f0) := (blk_cell hX5 0).trans rfl; have y1 : w5.cell? ⟨wr.heap.size, 1, none⟩ = some (.string x.f1) := (blk_cell hX5 1).trans rfl)
        have HB5 := Aside0.mk hb5
        have HO5 := Aside0.mk hO5
        have HS5 := Aside0.mk hs5
        clear hb5 hO5 hs5 hX5 HVL
        go_cut [8] (fun v8 wc => v8 = .string tb ∧ Aside0 (Lib.IsBuilderF 40 5 B B (Lib.byteCells o) wc) ∧ Aside0 (Below B w wc) ∧ Aside0 (B + 1 ≤ wc.heap.size))
        case first =>
          by_cases h4 : x.f0 = 4
          · have c4 : (x.f0 == 4) = true := beq_iff_eq.mpr h4
            have hsz := ok_text HOK.out h4
            have htx : txtB x = ((⟨#[39]⟩ : ByteArray) ++ ⟨(Lib.replaceAll x.f1.data.toList [39] [39, 39]).toArray⟩) ++ (⟨#[39]⟩ : ByteArray) := by unfold txtB; rw [if_pos h4]
            have HRP : Aside0 (Calls Tryz.prog 13 #[.string x.f1, .string ⟨#[39]⟩, .string ⟨#[39, 39]⟩] w5 fun e w' => e = .returned (.string ⟨(Lib.replaceAll x.f1.data.toList [39] [39, 39]).toArray⟩) ∧ Below w5.heap.size w5 w') :=
              ⟨replace_calls x.f1 w5 (MaxL.below HM (by rw [← HBD.out]; exact HWS.out.trans HB5.out)) hsz⟩
            have hql : (⟨(Lib.replaceAll x.f1.data.toList [39] [39, 39]).toArray⟩ : ByteArray).size ≤ 200 := by
              show (Lib.replaceAll x.f1.data.toList [39] [39, 39]).toArray.size ≤ 200
              rw [List.size_toArray, PQ.replaceAll_qt]
              have h1 := PQ.qt_len2 x.f1.data.toList
              have h2 : x.f1.data.toList.length = x.f1.size := by simp
              omega
            rw [htx] at htb
            generalize (⟨(Lib.replaceAll x.f1.data.toList [39] [39, 39]).toArray⟩ : ByteArray) = X at *
            have k1 : 1 + X.size ≤ 9223372036854775807 := by omega
            have k1a := eq_true k1
            have k1b : decide (1 + X.size ≤ 9223372036854775807) = true := decide_eq_true k1
            have k1c : (9223372036854775807 < 1 + X.size) = False := eq_false (Nat.not_lt.2 k1)
            have k2 : 1 + X.size + 1 ≤ 9223372036854775807 := by omega
            have k2a := eq_true k2
            have k2b : decide (1 + X.size + 1 ≤ 9223372036854775807) = true := decide_eq_true k2
            have k2c : (9223372036854775807 < 1 + X.size + 1) = False := eq_false (Nat.not_lt.2 k2)
            clear htx hsz h4
            go_wp2_with (go_at_call 13; refine HRP.out.mono ?_; rintro e w6 ⟨rfl, hb6⟩)
            go_meet
            case rel => exact ⟨by rw [htb], ⟨bld_below HO5.out hb6⟩, ⟨(HWS.out.trans HB5.out).trans (below_lower hb6 (by have := HS5.out; omega))⟩, ⟨by have := hb6.size; have := HS5.out; omega⟩⟩
          · have c4 : (x.f0 == 4) = false := beq_eq_false_iff_ne.mpr h4
            have htx : txtB x = x.f1 := by unfold txtB; rw [if_neg h4]
            rw [htx] at htb
            clear htx h4
            go_wp2
            go_meet
            case rel => exact ⟨by rw [htb], HO5, ⟨HWS.out.trans HB5.out⟩, HS5⟩
        case rest =>
          clear HO5 HB5 HS5 y0 y1 htb
          obtain ⟨rfl, HO6, HB6, HS6⟩ := hcut
          have HCT : ∀ n, Aside0 (Calls Tryz.prog 14 #[.string ⟨#[44, 41, 46, 59]⟩, .string tb] (wc.drewN n) fun e w' => e = .returned (.bool (Lib.contains [44, 41, 46, 59] tb.data.toList)) ∧ w' = wc.drewN n) := by
            intro n
            exact ⟨contains_calls tb _ (MaxL.below HM (by rw [← HBD.out]; exact pw_below_drewN HB6.out n))⟩
          have HSP : Aside0 (sepP g x = (!g && !((x.f0 == 5) && Lib.contains [44, 41, 46, 59] tb.data.toList))) := ⟨by unfold sepP; rw [← HTB.out]; rfl⟩
          have HGL : Aside0 (glueP x = ((x.f0 == 5) && ((tb.toList == [40]) || (tb.toList == [46])))) := ⟨by
            have q : ∀ m, decide (tb.data.toList = m) = (tb.data.toList == m) := fun m => by rw [Bool.eq_iff_iff]; simp
            unfold glueP; rw [← HTB.out, Lib.toList_data, q, q]; rfl⟩
          have HCT0 := HCT 0
          go_upto_region 12 with (fail)
          go_cut [9, 40] (fun v9 v40 wc2 => v9 = .bool (x.f0 == 5) ∧ v40 = .bool (sepP g x) ∧ Aside0 (Lib.IsBuilderF 40 5 B B (Lib.byteCells o) wc2) ∧ Aside0 (Below B w wc2) ∧ Aside0 (B + 1 ≤ wc2.heap.size))
          case first =>
            clear HGL HJ HV
            cases g with
            | true =>
              go_wp2
              go_meet
              case rel => exact ⟨by first | rfl | rw [c5], rfl, HO6, HB6, HS6⟩
            | false =>
              by_cases h5 : x.f0 = 5
              · have c5 : (x.f0 == 5) = true := beq_iff_eq.mpr h5
                clear h5
                cases hct : Lib.contains [44, 41, 46, 59] tb.data.toList with
                | true =>
                  have hs2 := HSP.out
                  rw [c5, hct] at hs2
                  rw [hct] at HCT0
                  have HS2 := Aside0.mk hs2
                  clear HSP hs2
                  go_wp2_with (go_at_call 14; refine HCT0.out.mono ?_; rintro e w' ⟨rfl, hw'⟩; rw [hw'])
                  go_meet
                  case rel => exact ⟨by rw [c5], by rw [HS2.out]; rfl, HO6, HB6, HS6⟩
                | false =>
                  have hs2 := HSP.out
                  rw [c5, hct] at hs2
                  rw [hct] at HCT0
                  have HS2 := Aside0.mk hs2
                  clear HSP hs2
                  go_wp2_with (go_at_call 14; refine HCT0.out.mono ?_; rintro e w' ⟨rfl, hw'⟩; rw [hw'])
                  go_meet
                  case rel => exact ⟨by rw [c5], by rw [HS2.out]; rfl, HO6, HB6, HS6⟩
              · have c5 : (x.f0 == 5) = false := beq_eq_false_iff_ne.mpr h5
                clear h5
                have hs2 := HSP.out
                rw [c5] at hs2
                have HS2 := Aside0.mk hs2
                clear HSP hs2
                go_wp2
                go_meet
                case rel => exact ⟨by rw [c5], by rw [HS2.out]; rfl, HO6, HB6, HS6⟩
          case rest =>
            clear HO6 HB6 HS6 HCT0 HCT HSP
            obtain ⟨rfl, rfl, HO6, HB6, HS6⟩ := hcut
            go_upto_if 40 with (fail)
            go_cut [] (fun wc2 => Aside0 (Lib.IsBuilderF 40 5 B B (Lib.byteCells (o ++ (if sepP g x = true then [32] else []))) wc2) ∧ Aside0 (Below B w wc2) ∧ Aside0 (B + 1 ≤ wc2.heap.size))
            case first =>
              clear HGL HJ HV
              cases hs : sepP g x with
              | false =>
                go_wp2
                go_meet
                case rel => exact ⟨⟨by rw [hs]; simpa using HO6.out⟩, HB6, HS6⟩
              | true =>
                have HWB0 : Aside0 (Calls Tryz.prog 15 #[.pointer (some ⟨B, 0, none⟩), .int .u8 32] wc fun e w' => e = .returned .nilIface ∧ Lib.IsBuilderF 40 5 B B (Lib.byteCells (o ++ [32])) w' ∧ Below B wc w') := by
                  refine ⟨(Bld.writeByte B B (Lib.byteCells o) 32 wc HO6.out (by rw [Lib.byteCells_length]; have := HLO.out; rw [hs, if_pos rfl, List.length_append] at this; simp at this; omega) (by have := HS6.out; omega)).mono ?_⟩
                  rintro e w' ⟨rfl, h1, h2⟩
                  exact ⟨rfl, Or.inr (by rw [← byteCells_one]; exact h1), h2⟩
                go_wp2_with (go_at_call 15; refine HWB0.out.mono ?_; rintro e w7 ⟨rfl, hO7, hB7⟩)
                go_meet
                case rel => exact ⟨⟨by rw [hs]; exact hO7⟩, ⟨HB6.out.trans hB7⟩, ⟨by have := hB7.size; have := HS6.out; omega⟩⟩
            case rest =>
            clear HO6 HB6 HS6
            obtain ⟨HO7, HB7, HS7⟩ := hcut
            generalize hoq : o ++ (if sepP g x = true then [32] else []) = oq at *
            have hqs : oq.length + tb.size ≤ 140737488355328 := by
              have h1 := HLO.out
              rw [← hoq, List.length_append]
              rw [List.length_append, ← HTB.out] at h1
              have h2 : tb.data.toList.length = tb.size := by simp
              omega
            have HJ2 : Aside0 (joinP true l = (oq ++ tb.data.toList) ++ joinP (glueP x) (l.drop (i + 1))) := ⟨by
              rw [HJ.out, ← hoq, ← HTB.out]
              simp⟩
            have HV2 : Aside0 (l.all okP = (l.drop (i + 1)).all okP) := ⟨by rw [HV.out, HOK.out, Bool.true_and]⟩
            have HWRT : Aside0 (Calls Tryz.prog 16 #[.pointer (some ⟨B, 0, none⟩), .string tb] wc fun e w' => e = .returned (.tuple #[.int .i64 tb.size, .nilIface]) ∧ Lib.IsBuilderF 40 5 B B (Lib.byteCells (oq ++ tb.data.toList)) w' ∧ Below B wc w') := by
              refine ⟨(Bld.writeString B B (Lib.byteCells oq) tb wc HO7.out (by rw [Lib.byteCells_length]; exact hqs) (by have := HS7.out; omega)).mono ?_⟩
              rintro e w' ⟨rfl, h1, h2⟩
              exact ⟨rfl, Or.inr (by rw [← byteCells_strCells]; exact h1), h2⟩
            have hw1 : (i : Int) + 1 = ((i + 1 : Nat) : Int) := by omega
            have hiw : IntKind.i64.wrap ((i : Int) + 1) = ((i + 1 : Nat) : Int) := by rw [IntKind.wrap_i64]; have := HLEN.out; omega
            clear HJ HV HLO hqs hw1 HTK
            have HOQ := Aside0.mk hoq
            clear hoq
            have HHI := Aside0.mk hi
            go_upto_region 15 with (go_at_call 16; refine HWRT.out.mono ?_; rintro e w8 ⟨rfl, hO8, hB8⟩)
            have HO8 := Aside0.mk hO8
            have HB8 := Aside0.mk hB8
            clear hO8 hB8 HWRT
            by_cases h5 : x.f0 = 5
            · have c5 : (x.f0 == 5) = true := beq_iff_eq.mpr h5
              clear h5
              have hg := HGL.out
              rw [c5, Bool.true_and] at hg
              cases d1 : (tb.toList == [40]) with
              | true =>
                rw [d1, Bool.true_or] at hg
                go_wp2
                go_roundg gk
                case measure => omega
                case rel => exact ⟨i + 1, true, oq ++ tb.data.toList, by have := HHI.out; omega, by first | rfl | simp [*], by first | rfl | simp [*], HO8, ⟨HB7.out.trans HB8.out⟩, ⟨by have := HB8.out.size; have := HS7.out; omega⟩, ⟨by have hj := HJ2.out; rw [hg] at hj; exact hj⟩, HV2⟩
              | false =>
                rw [d1, Bool.false_or] at hg
                cases d2 : (tb.toList == [46]) with
                | true =>
                  rw [d2] at hg
                  go_wp2
                  go_roundg gk
                  case measure => omega
                  case rel => exact ⟨i + 1, true, oq ++ tb.data.toList, by have := HHI.out; omega, by first | rfl | simp [*], by first | rfl | simp [*], HO8, ⟨HB7.out.trans HB8.out⟩, ⟨by have := HB8.out.size; have := HS7.out; omega⟩, ⟨by have hj := HJ2.out; rw [hg] at hj; exact hj⟩, HV2⟩
                | false =>
                  rw [d2] at hg
                  go_wp2
                  go_roundg gk
                  case measure => omega
                  case rel => exact ⟨i + 1, false, oq ++ tb.data.toList, by have := HHI.out; omega, by first | rfl | simp [*], by first | rfl | simp [*], HO8, ⟨HB7.out.trans HB8.out⟩, ⟨by have := HB8.out.size; have := HS7.out; omega⟩, ⟨by have hj := HJ2.out; rw [hg] at hj; exact hj⟩, HV2⟩
            · have c5 : (x.f0 == 5) = false := beq_eq_false_iff_ne.mpr h5
              clear h5
              have hg := HGL.out
              rw [c5, Bool.false_and] at hg
              go_wp2
              go_roundg gk
              case measure => omega
              case rel => exact ⟨i + 1, false, oq ++ tb.data.toList, by have := HHI.out; omega, by first | rfl | simp [*], by first | rfl | simp [*], HO8, ⟨HB7.out.trans HB8.out⟩, ⟨by have := HB8.out.size; have := HS7.out; omega⟩, ⟨by have hj := HJ2.out; rw [hg] at hj; exact hj⟩, HV2⟩

def lex_Join.f (l : List S33) : Option (ByteArray × Int) := if l.length ≤ 4398046511104 ∧ (joinP true l).length + 1 ≤ 140737488355328 then some (resP l) else none
theorem lex_Join.calls (A0 : Option Addr) (c0 : Nat) (l0 : List S33) (r1 : ByteArray) (r2 : Int) (w : World) (hr0 : Kd.C k33 w A0 l0.length l0) (hc0 : l0.length ≤ c0) (h : lex_Join.f l0 = some (r1, r2)) (hL : LaidL w) (hM : MaxL w) :
    Calls Tryz.prog 5 #[.slice A0 l0.length c0] w fun e w' => e = .returned (.tuple #[.string r1, .int .i64 r2]) ∧ Below w.heap.size w w' := by
  unfold lex_Join.f at h
  split at h
  · rename_i hc
    have := join_calls A0 c0 l0 w hL hM hr0 hc0 hc.1 hc.2
    rw [Option.some.inj h] at this
    exact this
  · cases h
end Go.Proofs.YtaibkpbiccibjaaGreatDoor.PAll
