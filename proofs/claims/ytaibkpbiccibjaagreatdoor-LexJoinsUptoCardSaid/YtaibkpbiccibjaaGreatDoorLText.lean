/- The scanner of layer 2: the text that begins at the place. -/
import Derived.Test.YtaibkpbiccibjaaGreatDoorLBuilder
import Derived.Test.YtaibkpbiccibjaaGreatDoorLSkip
set_option linter.unusedVariables false
namespace Go.Proofs.YtaibkpbiccibjaaGreatDoor.PAll
open Go.RowKit Go.Proofs.YtaibkpbiccibjaaGreatDoorW.PrintWords Go.Proofs.YtaibkpbiccibjaaGreatDoorW.PrintLast Go.Proofs.YtaibkpbiccibjaaGreatDoorW.PrintMore

theorem quo_cons (c : UInt8) (t : List UInt8) (h : c ≠ 39) : Lx.quo (c :: t) = (Lx.quo t).map fun x => (c :: x.1, x.2 + 1) := by
  cases t with
  | nil => simp [Lx.quo, h]
  | cons d t => simp [Lx.quo, h]
theorem quo_none : ∀ l : List UInt8, (39 : UInt8) ∉ l → Lx.quo l = none
  | [], _ => rfl
  | c :: t, h => by
    have h1 : c ≠ 39 := fun e => h (by simp [e])
    have h2 : (39 : UInt8) ∉ t := fun e => h (by simp [e])
    rw [quo_cons _ _ h1, quo_none t h2]; rfl
theorem quo_app (R : List UInt8) : ∀ a : List UInt8, (39 : UInt8) ∉ a → Lx.quo (a ++ R) = (Lx.quo R).map fun x => (a ++ x.1, a.length + x.2)
  | [], _ => by simp
  | c :: t, h => by
    have h1 : c ≠ 39 := fun e => h (by simp [e])
    have h2 : (39 : UInt8) ∉ t := fun e => h (by simp [e])
    rw [List.cons_append, quo_cons _ _ h1, quo_app R t h2, Option.map_map]
    cases Lx.quo R with
    | none => rfl
    | some x => simp; omega
theorem quo_end (R : List UInt8) (h : R.head? ≠ some 39) : Lx.quo (39 :: R) = some ([], 1) := by
  cases R with
  | nil => rfl
  | cons d t =>
    have : d ≠ 39 := fun e => h (by simp [e])
    simp [Lx.quo, this]
theorem quo_two (T : List UInt8) : Lx.quo (39 :: 39 :: T) = (Lx.quo T).map fun x => (39 :: x.1, x.2 + 2) := by simp [Lx.quo]
theorem ixq : ∀ s : List UInt8, (Lib.indexByte s 39 = -1 ∧ (39 : UInt8) ∉ s) ∨ ∃ a b, s = a ++ 39 :: b ∧ (39 : UInt8) ∉ a ∧ Lib.indexByte s 39 = (a.length : Int)
  | [] => .inl ⟨rfl, by simp⟩
  | d :: t => by
    by_cases hd : d = 39
    · subst hd
      exact .inr ⟨[], t, rfl, by simp, by simp [Lib.indexByte]⟩
    · rcases ixq t with ⟨h1, h2⟩ | ⟨a, b, h1, h2, h3⟩
      · exact .inl ⟨by simp [Lib.indexByte, hd, h1], by simp [h2]; exact fun e => hd e.symm⟩
      · exact .inr ⟨d :: a, b, by rw [h1]; rfl, by simp [h2]; exact fun e => hd e.symm, by simp [Lib.indexByte, hd, h3]⟩
theorem byteCells_strCells (o : List UInt8) (l : List UInt8) : Lib.byteCells o ++ Lib.strCells ⟨l.toArray⟩ = Lib.byteCells (o ++ l) := by
  simp [Lib.byteCells, Lib.strCells]
theorem byteCells_one (o : List UInt8) (c : UInt8) : Lib.byteCells o ++ [.int .u8 c.toNat] = Lib.byteCells (o ++ [c]) := by
  simp [Lib.byteCells]
theorem below_lower {B B' : Nat} {w w' : World} (h : Below B w w') (hb : B' ≤ B) : Below B' w w' := ⟨h.os, h.tape, h.output, h.size, fun k hk => h.block k (by omega)⟩

theorem extract_list' (s : ByteArray) (a b : Nat) : s.extract a b = ⟨((s.data.toList.drop a).take (b - a)).toArray⟩ := by
  apply ByteArray.ext
  rw [ByteArray.data_extract]
  apply Array.toList_inj.mp
  simp
/-- What text returns. -/
def textR (s : ByteArray) (a0 : Nat) : ByteArray × Int × Int :=
  match Lx.quo (s.data.toList.drop (a0 + 1)) with
  | none => (⟨#[]⟩, 0, 21)
  | some x => if 100 < x.1.length then (⟨#[]⟩, 0, 5) else (⟨x.1.toArray⟩, ((a0 + 1 + x.2 : Nat) : Int), 0)

set_option maxHeartbeats 8000000 in
set_option maxRecDepth 100000 in
theorem text_calls (g : Nat) (s : ByteArray) (a0 : Nat) (w : World) (h0 : w.cell? ⟨g, 0, none⟩ = some (.string s)) (h1 : w.cell? ⟨g, 1, none⟩ = some (.int .i64 a0)) (ha : a0 < s.size) (hsz : s.size ≤ 4000) :
    Calls Tryz.prog 39 #[.pointer (some ⟨g, 0, none⟩)] w fun e w' => e = .returned (.tuple #[.string (textR s a0).1, .int .i64 (textR s a0).2.1, .int .i64 (textR s a0).2.2]) ∧ Below w.heap.size w w' := by
  have hg : g < w.heap.size := World.block_lt_of_cell? w _ h0
  have hL : s.data.toList.length = s.size := by simp
  obtain ⟨B, hBd⟩ : ∃ B, B = w.heap.size := ⟨_, rfl⟩
  go_enter Tryz.func39, Tryz.ntmps39
  have hw1 : IntKind.i64.wrap ((a0 : Int) + 1) = ((a0 + 1 : Nat) : Int) := by rw [IntKind.wrap_i64]; omega
  generalize ha1 : a0 + 1 = a1 at *
  have hA0 : (w.alloc (Obj.cells #[Value.pointer none, Value.slice none 0 0] 40)).cell? ⟨g, 0, none⟩ = some (.string s) := (((Below.refl _ w).alloc (Nat.le_refl _) _).cell (p := ⟨g, 0, none⟩) hg).trans h0
  have hA1 : (w.alloc (Obj.cells #[Value.pointer none, Value.slice none 0 0] 40)).cell? ⟨g, 1, none⟩ = some (.int .i64 a0) := (((Below.refl _ w).alloc (Nat.le_refl _) _).cell (p := ⟨g, 1, none⟩) hg).trans h1
  go_wp2
  have hbld : Lib.IsBuilderF 40 5 B B (Lib.byteCells []) (w.alloc (Obj.cells #[Value.pointer none, Value.slice none 0 0] 40)) := by
    have := Lib.fresh_isBuilder 40 5 w
    rw [hBd]
    exact Lib.IsBuilderF.of this
  have hbel : Below w.heap.size w (w.alloc (Obj.cells #[Value.pointer none, Value.slice none 0 0] 40)) := (Below.refl _ _).alloc (Nat.le_refl _) _
  have hsz1 : B + 1 ≤ (w.alloc (Obj.cells #[Value.pointer none, Value.slice none 0 0] 40)).heap.size := by simp [hBd]
  generalize (w.alloc (Obj.cells #[Value.pointer none, Value.slice none 0 0] 40)) = W1 at *
  rw [← hBd] at hbel ⊢
  clear h0 h1 hw1
  have HBD := Aside0.mk hBd
  have HBL := Aside0.mk hbel
  have HG := Aside0.mk hg
  have HA1 := Aside0.mk ha1
  clear hBd hbel hA1 hg ha1
  go_loopg [6] (s.size - a1) (fun gk v6 wx => ∃ (i : Nat) (o : List UInt8), i + gk = s.size ∧ v6 = .int .i64 i ∧ Aside0 (o.length ≤ i) ∧ Aside0 (Lib.IsBuilderF 40 5 B B (Lib.byteCells o) wx) ∧ Aside0 (Below B W1 wx) ∧
    Aside0 (Lx.quo (s.data.toList.drop a1) = (Lx.quo (s.data.toList.drop i)).map fun x => (o ++ x.1, (i - a1) + x.2)) ∧ Aside0 (a1 ≤ i))
  case atStart => exact ⟨a1, [], by have := HA1.out; omega, rfl, ⟨by simp⟩, ⟨hbld⟩, ⟨Below.refl _ _⟩, ⟨by cases Lx.quo (s.data.toList.drop a1) <;> simp⟩, ⟨Nat.le_refl _⟩⟩
  case round =>
    clear hbld
    obtain ⟨i, o, hi, rfl, HO, HB, HW, HQ, HI⟩ := hrel
    have hs0 : wr.cell? ⟨g, 0, none⟩ = some (.string s) := (HW.out.cell (p := ⟨g, 0, none⟩) (by show g < B; rw [HBD.out]; exact HG.out)).trans hA0
    have HX : ∀ w1, Aside0 (Calls Tryz.prog 34 #[.string (s.extract i s.size), .int .u8 39] w1 fun e w' => e = .returned (.int .i64 (Lib.indexByte (s.data.toList.drop i) 39)) ∧ w' = w1) := by
      intro w1
      have := Tryz.strings_IndexByte (s.extract i s.size) 39 w1
      rw [drop_bytes] at this
      exact ⟨this⟩
    have k0 : (0 : Int) ≤ (i : Int) := by omega
    have k1 : (i : Int) ≤ (s.size : Int) := by omega
    have HWS := Aside0.mk (show Below B w wr from HBL.out.trans HW.out)
    rcases ixq (s.data.toList.drop i) with ⟨hx1, hx2⟩ | ⟨a, b, hx1, hx2, hx3⟩
    · have hR : textR s a0 = (⟨#[]⟩, 0, 21) := by
        unfold textR
        rw [HA1.out, HQ.out, quo_none _ hx2]
        rfl
      simp only [hx1] at HX
      go_wp2_with (go_at_call 34; (with_reducible refine (HX _).out.mono ?_); rintro e w' ⟨rfl, hw'⟩; rw [hw'])
      go_ret3
      exact ⟨by rw [hR]; rfl, by rw [← HBD.out]; exact HWS.out⟩
    · simp only [hx3] at HX
      have hlen : i + a.length + 1 + b.length = s.size := by
        have := congrArg List.length hx1
        simp at this
        omega
      obtain ⟨j, hj⟩ : ∃ j, j = i + a.length := ⟨_, rfl⟩
      obtain ⟨n1, hn1⟩ : ∃ n1, n1 = a.length + 1 := ⟨_, rfl⟩
      obtain ⟨m, hm⟩ : ∃ m, m = j + 1 := ⟨_, rfl⟩
      have hex : s.extract i j = ⟨a.toArray⟩ := by
        rw [extract_list', hx1, hj, show i + a.length - i = a.length by omega]
        simp
      have hwj : IntKind.i64.wrap ((i : Int) + (a.length : Int)) = (j : Int) := by rw [IntKind.wrap_i64]; omega
      have hwn : IntKind.i64.wrap ((a.length : Int) + 1) = (n1 : Int) := by rw [IntKind.wrap_i64]; omega
      have hwm : IntKind.i64.wrap ((i : Int) + (n1 : Int)) = (m : Int) := by rw [IntKind.wrap_i64]; omega
      have k2 : (i : Int) ≤ (j : Int) := by omega
      have k3 : (j : Int) ≤ (s.size : Int) := by omega
      have k4 : (0 : Int) ≤ (j : Int) := by omega
      have k5 : ¬ ((a.length : Int) < 0) := by omega
      have hdm : s.data.toList.drop m = b := by
        have : s.data.toList.drop (i + (a.length + 1)) = b := by rw [← List.drop_drop, hx1, ← List.drop_drop]; simp
        rw [hm, hj]
        exact this
      have hend : b.head? ≠ some 39 → textR s a0 = if 100 < (o ++ a).length then (⟨#[]⟩, 0, 5) else (⟨(o ++ a).toArray⟩, (m : Int), 0) := by
        intro hb
        have hI := HI.out
        unfold textR
        rw [HA1.out, HQ.out, hx1, quo_app _ _ hx2, quo_end _ hb]
        simp only [Option.map_some, List.append_nil]
        rw [show a1 + (i - a1 + (a.length + 1)) = m by omega]
      have HEND := Aside0.mk hend
      have hgo : ∀ t, b = 39 :: t → Lx.quo (s.data.toList.drop a1) = (Lx.quo t).map fun x => ((o ++ a ++ [39]) ++ x.1, (m + 1 - a1) + x.2) := by
        intro t ht
        have hI := HI.out
        rw [HQ.out, hx1, quo_app _ _ hx2, ht, quo_two, Option.map_map, Option.map_map]
        cases Lx.quo t with
        | none => rfl
        | some x => simp; omega
      have HGO := Aside0.mk hgo
      have hol : o.length + a.length ≤ 4000 := by have := HO.out; omega
      have hms : m ≤ s.size := by omega
      have hoa : (o ++ a ++ [(39 : UInt8)]).length ≤ m + 1 := by have := HO.out; simp; omega
      have HOA := Aside0.mk hoa
      have HMG : Aside0 (m = i + a.length + 1) := ⟨by omega⟩
      have HWRT : ∀ n, Aside0 (Calls Tryz.prog 16 #[.pointer (some ⟨B, 0, none⟩), .string ⟨a.toArray⟩] (wr.drewN n) fun e w' => (∃ v, e = .returned v) ∧ Lib.IsBuilderF 40 5 B B (Lib.byteCells (o ++ a)) w' ∧ Below B wr w') := by
        intro n
        refine ⟨(Bld.writeString B B (Lib.byteCells o) ⟨a.toArray⟩ (wr.drewN n) HB.out (by rw [Lib.byteCells_length]; show _ + a.toArray.size ≤ _; rw [List.size_toArray]; omega) (by have := HW.out.size; show B ≤ wr.heap.size; omega)).mono ?_⟩
        rintro e w' ⟨rfl, h1, h2⟩
        refine ⟨⟨_, rfl⟩, Or.inr (by rw [← byteCells_strCells]; exact h1), ?_⟩
        exact (show Below B wr (wr.drewN n) from ⟨rfl, rfl, rfl, Nat.le_refl _, fun _ _ => rfl⟩).trans h2
      have HWR0 := HWRT 0
      clear hx1 hx2 hx3 hj hn1 hm hlen HQ HO hend hgo hoa
      by_cases hmz : m = s.size
      · have hb0 : b = [] := by rw [← hdm, hmz]; exact List.drop_eq_nil_of_le (by simp)
        have HR : Aside0 (textR s a0 = if 100 < (o ++ a).length then (⟨#[]⟩, 0, 5) else (⟨(o ++ a).toArray⟩, (m : Int), 0)) := ⟨HEND.out (by rw [hb0]; simp)⟩
        clear HEND HGO hdm
        subst hmz
        go_wp2_with (go_at_call 34; (with_reducible refine (HX _).out.mono ?_); rintro e w' ⟨rfl, hw'⟩; rw [hw'])
        refine HWR0.out.mono ?_
        rintro e w2 ⟨⟨v2, rfl⟩, hb2, hw2⟩
        have hs2 : w2.cell? ⟨g, 0, none⟩ = some (.string s) := (hw2.cell (p := ⟨g, 0, none⟩) (by show g < B; rw [HBD.out]; exact HG.out)).trans hs0
        have HW2 := Aside0.mk (HWS.out.trans hw2)
        have hBs : B ≤ w2.heap.size := by have := hw2.size; have := HW.out.size; omega
        have HLN : ∀ wX, Lib.IsBuilderF 40 5 B B (Lib.byteCells (o ++ a)) wX → Aside0 (Calls Tryz.prog 17 #[.pointer (some ⟨B, 0, none⟩)] wX fun e w' => e = .returned (.int .i64 (o ++ a).length) ∧ w' = wX) := by
          intro wX hX
          have := Tryz.Builder_Len_f B B _ wX hX
          rw [Lib.byteCells_length] at this
          exact ⟨this⟩
        have HL2 := HLN w2 hb2
        have HS2 : Aside0 (Calls Tryz.prog 18 #[.pointer (some ⟨B, 0, none⟩)] w2 fun e w' => e = .returned (.string ⟨(o ++ a).toArray⟩) ∧ Below B w2 w') :=
          ⟨(Tryz.Builder_String_any_f B B (o ++ a) w2 hb2 hBs).mono fun e w' h => ⟨h.1, h.2.2⟩⟩
        generalize hoal : (o ++ a).length = q at *
        clear HWRT HWR0 hb2 hw2 HLN HB HX hs0 hex hwj k2 k3 hol HOA HMG hoal
        by_cases hq : 100 < q
        · have hR : textR s a0 = (⟨#[]⟩, 0, 5) := by rw [HR.out, if_pos hq]
          have hqi : (100 : Int) < (q : Int) := by omega
          go_wp2_with (go_at_call 17; refine HL2.out.mono ?_; rintro e w' ⟨rfl, hw'⟩; rw [hw'])
          go_ret3
          exact ⟨by rw [hR]; rfl, by rw [← HBD.out]; exact HW2.out⟩
        · have hR : textR s a0 = (⟨(o ++ a).toArray⟩, ((s.size : Nat) : Int), 0) := by rw [HR.out, if_neg hq]
          have hqi : ¬ (100 : Int) < (q : Int) := by omega
          go_wp2_with (first | (go_at_call 17; refine HL2.out.mono ?_; rintro e w' ⟨rfl, hw'⟩; rw [hw']) | (go_at_call 18; refine HS2.out.mono ?_; rintro e w3 ⟨rfl, hw3⟩))
          go_ret3
          exact ⟨by rw [hR]; rfl, by rw [← HBD.out]; exact HW2.out.trans hw3⟩
      · have hmlt : m < s.size := by omega
        have hmi : ¬ ((m : Int) = (s.size : Int)) := by omega
        have hd := drop_at hmlt
        have hmi2 : (m : Int) < (s.size : Int) := by omega
        have hmi3 : (0 : Int) ≤ (m : Int) := by omega
        have hbeq : b = s[m] :: s.data.toList.drop (m + 1) := by rw [← hdm]; exact hd
        by_cases hq39 : s[m] = 39
        · have HGQ := Aside0.mk (HGO.out _ (by rw [hbeq, hq39]))
          have hby : s[m].toNat = 39 := by rw [hq39]; rfl
          have hbyi : (s[m].toNat : Int) = 39 := by omega
          have hmb : ((m : Int) == (s.size : Int)) = false := beq_eq_false_iff_ne.mpr hmi
          have hbb : ((s[m].toNat : Int) == 39) = true := beq_iff_eq.mpr hbyi
          have hbb2 : ((s[m].toNat : Int) != 39) = false := bne_eq_false_iff_eq.mpr hbyi
          have hwm1 : IntKind.i64.wrap ((m : Int) + 1) = (m : Int) + 1 := by rw [IntKind.wrap_i64]; omega
          clear HEND HGO hdm hd hbeq hq39
          go_wp2_with (go_at_call 34; (with_reducible refine (HX _).out.mono ?_); rintro e w' ⟨rfl, hw'⟩; rw [hw'])
          refine HWR0.out.mono ?_
          rintro e w2 ⟨⟨v2, rfl⟩, hb2, hw2⟩
          have hs2 : w2.cell? ⟨g, 0, none⟩ = some (.string s) := (hw2.cell (p := ⟨g, 0, none⟩) (by show g < B; rw [HBD.out]; exact HG.out)).trans hs0
          have HW2 := Aside0.mk (HW.out.trans hw2)
          have hBs : B ≤ w2.heap.size := by have := hw2.size; have := HW.out.size; omega
          have HWB : Aside0 (Calls Tryz.prog 15 #[.pointer (some ⟨B, 0, none⟩), .int .u8 39] w2 fun e w' => e = .returned .nilIface ∧ Lib.IsBuilderF 40 5 B B (Lib.byteCells (o ++ a ++ [39])) w' ∧ Below B w2 w') := by
            refine ⟨(Bld.writeByte B B (Lib.byteCells (o ++ a)) 39 w2 hb2 (by rw [Lib.byteCells_length, List.length_append]; omega) hBs).mono ?_⟩
            rintro e w' ⟨rfl, h1, h2⟩
            exact ⟨rfl, Or.inr (by rw [← byteCells_one]; exact h1), h2⟩
          have hgk : m + 1 + (s.size - (m + 1)) = s.size := by omega
          clear HWRT HWR0 hb2 hw2 HB HX hs0 hex hwj k2 k3 hol
          go_wp2_with (go_at_call 15; refine HWB.out.mono ?_; rintro e w3 ⟨rfl, hb3, hw3⟩)
          go_roundg (s.size - (m + 1))
          case measure => have := HMG.out; omega
          case rel => exact ⟨m + 1, o ++ a ++ [39], hgk, by first | rfl | simp, ⟨HOA.out⟩, ⟨hb3⟩, ⟨HW2.out.trans hw3⟩, HGQ, ⟨by have := HMG.out; have := HI.out; omega⟩⟩
        · have HR : Aside0 (textR s a0 = if 100 < (o ++ a).length then (⟨#[]⟩, 0, 5) else (⟨(o ++ a).toArray⟩, (m : Int), 0)) := ⟨HEND.out (by rw [hbeq]; simp; exact hq39)⟩
          have hby : s[m].toNat ≠ 39 := fun e => hq39 (UInt8.toNat_inj.1 e)
          have hbyi : ¬ ((s[m].toNat : Int) = 39) := by omega
          have hmb : ((m : Int) == (s.size : Int)) = false := beq_eq_false_iff_ne.mpr hmi
          have hbb : ((s[m].toNat : Int) == 39) = false := beq_eq_false_iff_ne.mpr hbyi
          have hbb2 : ((s[m].toNat : Int) != 39) = true := bne_iff_ne.mpr hbyi
          clear HEND HGO hdm hd hbeq hq39 hmz
          go_wp2_with (go_at_call 34; (with_reducible refine (HX _).out.mono ?_); rintro e w' ⟨rfl, hw'⟩; rw [hw'])
          refine HWR0.out.mono ?_
          rintro e w2 ⟨⟨v2, rfl⟩, hb2, hw2⟩
          have hs2 : w2.cell? ⟨g, 0, none⟩ = some (.string s) := (hw2.cell (p := ⟨g, 0, none⟩) (by show g < B; rw [HBD.out]; exact HG.out)).trans hs0
          have HW2 := Aside0.mk (HWS.out.trans hw2)
          have hBs : B ≤ w2.heap.size := by have := hw2.size; have := HW.out.size; omega
          have HLN : ∀ wX, Lib.IsBuilderF 40 5 B B (Lib.byteCells (o ++ a)) wX → Aside0 (Calls Tryz.prog 17 #[.pointer (some ⟨B, 0, none⟩)] wX fun e w' => e = .returned (.int .i64 (o ++ a).length) ∧ w' = wX) := by
            intro wX hX
            have := Tryz.Builder_Len_f B B _ wX hX
            rw [Lib.byteCells_length] at this
            exact ⟨this⟩
          have HL2 := HLN w2 hb2
          have HS2 : Aside0 (Calls Tryz.prog 18 #[.pointer (some ⟨B, 0, none⟩)] w2 fun e w' => e = .returned (.string ⟨(o ++ a).toArray⟩) ∧ Below B w2 w') :=
            ⟨(Tryz.Builder_String_any_f B B (o ++ a) w2 hb2 hBs).mono fun e w' h => ⟨h.1, h.2.2⟩⟩
          generalize hoal : (o ++ a).length = q at *
          clear HWRT HWR0 hb2 hw2 HLN HB HX hs0 hex hwj k2 k3 hol HOA HMG hoal
          by_cases hq : 100 < q
          · have hR : textR s a0 = (⟨#[]⟩, 0, 5) := by rw [HR.out, if_pos hq]
            have hqi : (100 : Int) < (q : Int) := by omega
            go_wp2_with (go_at_call 17; refine HL2.out.mono ?_; rintro e w' ⟨rfl, hw'⟩; rw [hw'])
            go_ret3
            exact ⟨by rw [hR]; rfl, by rw [← HBD.out]; exact HW2.out⟩
          · have hR : textR s a0 = (⟨(o ++ a).toArray⟩, (m : Int), 0) := by rw [HR.out, if_neg hq]
            have hqi : ¬ (100 : Int) < (q : Int) := by omega
            go_wp2_with (first | (go_at_call 17; refine HL2.out.mono ?_; rintro e w' ⟨rfl, hw'⟩; rw [hw']) | (go_at_call 18; refine HS2.out.mono ?_; rintro e w3 ⟨rfl, hw3⟩))
            go_ret3
            exact ⟨by rw [hR]; rfl, by rw [← HBD.out]; exact HW2.out.trans hw3⟩
end Go.Proofs.YtaibkpbiccibjaaGreatDoor.PAll
