/- lex.Tokens: all tokens of a source. -/
import Derived.Test.YtaibkpbiccibjaaGreatDoorLNextA
import Derived.Test.YtaibkpbiccibjaaGreatDoorLNextB
import Derived.Test.YtaibkpbiccibjaaGreatDoorLNextC
import Derived.Test.YtaibkpbiccibjaaGreatDoorLNextD
set_option linter.unusedVariables false
namespace Go.Proofs.YtaibkpbiccibjaaGreatDoor.PAll
open Go.RowKit Go.Proofs.YtaibkpbiccibjaaGreatDoorW.PrintWords Go.Proofs.YtaibkpbiccibjaaGreatDoorW.PrintLast Go.Proofs.YtaibkpbiccibjaaGreatDoorW.PrintMore

theorem next_calls (g : Nat) (s : ByteArray) (a0 : Nat) (w0 w : World) (hL0 : LaidL w0) (hI : IsS43 w0 w g s a0) (hB : Below w0.heap.size w0 w) (ha : a0 < s.size) (hsz : s.size ≤ 4000) :
    Calls Tryz.prog 20 #[.pointer (some ⟨g, 0, none⟩)] w fun e w' => e = .returned (.tuple #[.agg #[.int .u8 (nextR s a0).1.1, .string (nextR s a0).1.2.1, .int .i64 (nextR s a0).1.2.2], .int .i64 (nextR s a0).2.1]) ∧
      IsS43 w0 w' g s ((nextR s a0).2.2 : Nat) ∧ Below w0.heap.size w0 w' ∧ KeepBut w w' g none := by
  by_cases h2 : cls s[a0] = 2
  · exact next_word g s a0 w0 w hL0 hI hB ha hsz h2
  by_cases h3 : cls s[a0] = 3
  · exact next_number g s a0 w0 w hL0 hI hB ha hsz h3
  by_cases h4 : cls s[a0] = 4
  · exact next_text g s a0 w0 w hL0 hI hB ha hsz h4
  exact next_mark g s a0 w0 w hL0 hI hB ha hsz h2 h3 h4

theorem tokL_bad {l : List UInt8} {e : Int} (h : Lx.tokL isKw marksL l = .bad e) : e ≠ 0 := by
  cases l with
  | nil => simp [Lx.tokL] at h; subst h; decide
  | cons b r =>
    unfold Lx.tokL at h
    simp only at h
    split at h
    · split at h
      · cases h
      · split at h <;> cases h; decide
    · split at h
      · split at h
        · cases h; decide
        · split at h <;> cases h; decide
      · split at h
        · split at h
          · cases h; decide
          · split at h <;> cases h; decide
        · split at h <;> cases h; decide
theorem marks_ne : ∀ m ∈ marksL, m ≠ [] := by decide

def toS (x : Int × List UInt8 × Nat) : S33 := ⟨x.1, ⟨x.2.1.toArray⟩, (x.2.2 : Int)⟩
/-- All tokens from a token's place on. -/
def tokF (s : ByteArray) (i : Nat) : Lx.Tks :=
  match s.data.toList.drop i with
  | [] => .good []
  | b :: r => match Lx.tokL isKw marksL (b :: r) with
    | .bad e => .bad i e
    | .good kd t n => (Lx.toks isKw marksL (s.size + 1) (i + n) (s.data.toList.drop (i + n))).cons (kd, t, i)
def preT (p : List (Int × List UInt8 × Nat)) : Lx.Tks → Lx.Tks
  | .bad a e => .bad a e
  | .good l => .good (p ++ l)
theorem preT_nil (t : Lx.Tks) : preT [] t = t := by cases t <;> rfl
theorem preT_cons (p : List (Int × List UInt8 × Nat)) (x : Int × List UInt8 × Nat) (t : Lx.Tks) : preT p (t.cons x) = preT (p ++ [x]) t := by cases t <;> simp [preT, Lx.Tks.cons]
theorem toks_F (s : ByteArray) (j : Nat) : Lx.toks isKw marksL (s.size + 1) j (s.data.toList.drop j) = tokF s (j + Lx.skipC false (s.data.toList.drop j)) := by
  have hl : (s.data.toList.drop j).length ≤ s.size := by simp
  rw [Lx.toks_fuel isKw marksL marks_ne (s.size + 1) (s.size + 2) _ _ (by omega) (by omega)]
  unfold tokF
  rw [Lx.toks]
  rw [List.drop_drop]
  cases hd : s.data.toList.drop (j + Lx.skipC false (s.data.toList.drop j)) with
  | nil => rfl
  | cons b r =>
    simp only
    cases ht : Lx.tokL isKw marksL (b :: r) with
    | bad e => rfl
    | good kd t n =>
      simp only
      have : (b :: r).drop n = s.data.toList.drop (j + Lx.skipC false (s.data.toList.drop j) + n) := by rw [← hd, List.drop_drop]
      rw [this]

/-- What Tokens returns. -/
def tokensR (s : ByteArray) : List S33 × Int × Int :=
  if 4000 < s.size then ([], 0, 2) else match Lx.toks isKw marksL (s.size + 1) 0 s.data.toList with
    | .bad p e => ([], (p : Int), e)
    | .good ts => (ts.map toS, 0, 0)
def lex_Tokens.f (a0 : ByteArray) : Option (List S33 × Int × Int) := some (tokensR a0)

theorem skip_fits (s : ByteArray) (j : Nat) (hj : j ≤ s.size) : j + Lx.skipC false (s.data.toList.drop j) ≤ s.size := by
  have := Lx.skip_le (s.data.toList.drop j) false
  rw [List.length_drop] at this
  have hl : s.data.toList.length = s.size := by simp
  omega
set_option maxHeartbeats 8000000 in
set_option maxRecDepth 100000 in
theorem lex_Tokens.calls (a0 : ByteArray) (r1 : List S33) (r2 : Int) (r3 : Int) (w : World) (h : lex_Tokens.f a0 = some (r1, r2, r3)) (hL0 : LaidL w) :
    Calls Tryz.prog 7 #[.string a0] w fun e w' => ∃ v0_ : Value, e = .returned (.tuple #[v0_, .int .i64 r2, .int .i64 r3]) ∧ Kd.R k33 34 w' w.heap.size (fun _ => True) v0_ r1 ∧ Below w.heap.size w w' := by
  have hu33 := Tryz.underlying34
  have hu43 := Tryz.underlying51
  have HR0 := Aside0.mk (show tokensR a0 = (r1, r2, r3) from Option.some.inj h)
  have HL0 := Aside0.mk hL0
  clear h hL0
  by_cases hbig : 4000 < a0.size
  · have hR : (r1, r2, r3) = (([] : List S33), (0 : Int), (2 : Int)) := by rw [← HR0.out]; unfold tokensR; rw [if_pos hbig]
    simp only [Prod.mk.injEq] at hR
    obtain ⟨rfl, rfl, rfl⟩ := hR
    have hbi : (4000 : Int) < (a0.size : Int) := by omega
    go_enter Tryz.func7, Tryz.ntmps7
    go_wp2
    go_ret3
    exact ⟨_, rfl, Kd.R_nil _ _ _ _ _, Below.refl _ _⟩
  · have hbi : ¬ (4000 : Int) < (a0.size : Int) := by omega
    have hsz : a0.size ≤ 4000 := by omega
    have HR : Aside0 ((match tokF a0 (0 + Lx.skipC false (a0.data.toList.drop 0)) with | .bad p e => (([] : List S33), (p : Int), e) | .good ts => (ts.map toS, 0, 0)) = (r1, r2, r3)) := by
      have := HR0.out
      unfold tokensR at this
      rw [if_neg hbig] at this
      rw [← toks_F a0 0, List.drop_zero]
      exact ⟨this⟩
    clear HR0
    have HI1 := Aside0.mk (IsS43.new w w a0 0 (Below.refl _ _))
    have HB1 : Aside0 (Below w.heap.size w (w.alloc (.cells #[.string a0, .int .i64 0] 51))) := ⟨below_alloc (Below.refl _ _) _⟩
    have HSK : Aside0 (Calls Tryz.prog 19 #[.pointer (some ⟨w.heap.size, 0, none⟩)] (w.alloc (.cells #[.string a0, .int .i64 0] 51)) fun e w' =>
      e = .returned (.tuple #[]) ∧ IsS43 w w' w.heap.size a0 ((0 + Lx.skipC false (a0.data.toList.drop 0) : Nat) : Int) ∧ Below w.heap.size w w' ∧ KeepBut (w.alloc (.cells #[.string a0, .int .i64 0] 51)) w' w.heap.size none) := ⟨skip_calls w.heap.size a0 0 w _ HI1.out HB1.out (Nat.zero_le _) hsz⟩
    have hf0 := skip_fits a0 0 (Nat.zero_le _)
    generalize 0 + Lx.skipC false (a0.data.toList.drop 0) = i0 at *
    clear HI1 HB1 hbig
    go_enter Tryz.func7, Tryz.ntmps7
    go_wp2_with (go_at_call 19; refine HSK.out.mono ?_; rintro e w2 ⟨rfl, hI2, hB2, hK2⟩)
    have HI2 := Aside0.mk hI2
    have HB2 := Aside0.mk hB2
    clear hI2 hB2 hK2 HSK
    go_loopg [6] (a0.size - i0) (fun gk v6 wx => ∃ (i : Nat) (pre : List (Int × List UInt8 × Nat)), i + gk = a0.size ∧ Aside0 (Kd.R k33 34 wx w.heap.size (fun k => k ≠ w.heap.size) v6 (pre.map toS)) ∧ Aside0 (IsS43 w wx w.heap.size a0 i) ∧ Aside0 (Below w.heap.size w wx) ∧ Aside0 (tokF a0 i0 = preT pre (tokF a0 i)) ∧ Aside0 (pre.length ≤ i))
    case atStart => exact ⟨i0, [], by omega, ⟨Kd.R_nil _ _ _ _ _⟩, HI2, HB2, ⟨(preT_nil _).symm⟩, ⟨Nat.zero_le _⟩⟩
    case round =>
      clear HI2 HB2
      obtain ⟨i, pre, hi, HO, HI, HB, HT, HP⟩ := hrel
      have y1 := cellS43_1 HI.out.1
      cases gk with
      | zero =>
        have hn : ¬ (i : Int) < (a0.size : Int) := by omega
        have hT : tokF a0 i0 = .good pre := by
          have e : a0.data.toList.drop i = [] := List.drop_eq_nil_of_le (by simp; omega)
          rw [HT.out]
          unfold tokF
          rw [e]
          simp [preT]
        have hR := HR.out
        rw [hT] at hR
        simp only [Prod.mk.injEq] at hR
        obtain ⟨rfl, rfl, rfl⟩ := hR
        go_wp2
        go_ret3
        exact ⟨_, rfl, Kd.R_mono HO.out (fun _ _ => trivial), HB.out⟩
      | succ gk =>
        have hlt : i < a0.size := by omega
        have hn : (i : Int) < (a0.size : Int) := by omega
        have HNX : Aside0 (Calls Tryz.prog 20 #[.pointer (some ⟨w.heap.size, 0, none⟩)] wr fun e w' => e = .returned (.tuple #[.agg #[.int .u8 (nextR a0 i).1.1, .string (nextR a0 i).1.2.1, .int .i64 (nextR a0 i).1.2.2], .int .i64 (nextR a0 i).2.1]) ∧
          IsS43 w w' w.heap.size a0 ((nextR a0 i).2.2 : Nat) ∧ Below w.heap.size w w' ∧ KeepBut wr w' w.heap.size none) := ⟨next_calls w.heap.size a0 i w wr HL0.out HI.out HB.out hlt hsz⟩
        have hd := drop_at hlt
        cases ht : Lx.tokL isKw marksL (a0.data.toList.drop i) with
        | bad er =>
          have her := tokL_bad ht
          have hnr : nextR a0 i = ((0, ⟨#[]⟩, 0), er, i) := by unfold nextR; rw [ht]
          have hT : tokF a0 i0 = .bad i er := by
            rw [HT.out]
            unfold tokF
            rw [hd] at ht ⊢
            simp only
            rw [ht]
            rfl
          have hR := HR.out
          rw [hT] at hR
          simp only [Prod.mk.injEq] at hR
          obtain ⟨rfl, rfl, rfl⟩ := hR
          rw [hnr] at HNX
          have b1 : (er == 0) = false := beq_eq_false_iff_ne.mpr her
          have b2 : (er != 0) = true := bne_iff_ne.mpr her
          clear ht hd hnr hT her
          go_upto_region 10 with (go_at_call 20; refine HNX.out.mono ?_; rintro e w5 ⟨rfl, hI5, hB5, hK5⟩)
          have hA := hI5.alloc (Obj.cells #[Value.int IntKind.u8 0, Value.string { data := #[] }, Value.int IntKind.i64 0] 34)
          have c1 := cellS43_1 hA.1
          go_quiet (fail)
          go_wp2
          go_ret3
          exact ⟨_, rfl, Kd.R_nil _ _ _ _ _, pw_below_drewN (below_alloc hB5 _) _⟩
        | good kd t n =>
          have htp := Lx.tokL_pos marks_ne ht
          have hnr : nextR a0 i = ((kd, ⟨t.toArray⟩, (i : Int)), 0, i + n) := by unfold nextR; rw [ht]
          have hle : i + n ≤ a0.size := by
            have := htp.2
            rw [List.length_drop] at this
            have hl : a0.data.toList.length = a0.size := by simp
            omega
          have hT : tokF a0 i = (tokF a0 (i + n + Lx.skipC false (a0.data.toList.drop (i + n)))).cons (kd, t, i) := by
            rw [← toks_F a0 (i + n)]
            conv => lhs; unfold tokF
            rw [hd] at ht ⊢
            simp only
            rw [ht]
          have hf2 := skip_fits a0 (i + n) hle
          have HT2 : Aside0 (tokF a0 i0 = preT (pre ++ [(kd, t, i)]) (tokF a0 (i + n + Lx.skipC false (a0.data.toList.drop (i + n))))) := ⟨by rw [HT.out, hT, preT_cons]⟩
          have HN1 : Aside0 (1 ≤ n) := ⟨htp.1⟩
          rw [hnr] at HNX
          have hSK : ∀ w1, IsS43 w w1 w.heap.size a0 ((i + n : Nat) : Int) → Below w.heap.size w w1 → Aside0 (Calls Tryz.prog 19 #[.pointer (some ⟨w.heap.size, 0, none⟩)] w1 fun e w' =>
            e = .returned (.tuple #[]) ∧ IsS43 w w' w.heap.size a0 ((i + n + Lx.skipC false (a0.data.toList.drop (i + n)) : Nat) : Int) ∧ Below w.heap.size w w' ∧ KeepBut w1 w' w.heap.size none) := fun w1 h1 h2 => ⟨skip_calls w.heap.size a0 (i + n) w w1 h1 h2 hle hsz⟩
          have HHI : Aside0 (i + n ≤ i + n + Lx.skipC false (a0.data.toList.drop (i + n))) := ⟨by omega⟩
          generalize i + n + Lx.skipC false (a0.data.toList.drop (i + n)) = i2 at *
          generalize hin : i + n = j at *
          have HIN := Aside0.mk hin
          have HPL := Aside0.mk (show pre.length < 4001 by have := HP.out; omega)
          obtain ⟨tb, htb⟩ : ∃ tb : ByteArray, tb = ⟨t.toArray⟩ := ⟨_, rfl⟩
          rw [← htb] at HNX
          have HTB := Aside0.mk htb
          clear ht htp hd hnr hT hle hin htb
          go_wp2_with (first
            | (go_at_call 20; refine HNX.out.mono ?_; rintro e w5 ⟨rfl, hI5, hB5, hK5⟩; have HI5 := Aside0.mk hI5; have HB5 := Aside0.mk hB5; have HO5 := Aside0.mk (Kd.R_keep HO.out hK5 (fun _ h => h)); clear hI5 hB5 hK5)
            | (go_at_call 19; refine (hSK _ HI7.out HB7.out).out.mono ?_; rintro e w8 ⟨rfl, hI8, hB8, hK8⟩; have HO8 := Aside0.mk (Kd.R_keep HO7.out hK8 (fun _ h => h)))
            | (at_builtin; refine Kd.R_append k33 (w0 := w) w.heap.size rfl (.tmp 30) (.tmp 32) 22 34 (.agg #[(.int .u8 0), (.string ⟨#[]⟩), (.int .i64 0)]) 32 rfl Tryz.underlying22 info33 rfl (by decide) (by omega) u6 (pre.map toS) (⟨kd, tb, (i : Int)⟩ : S33) [.int .u8 kd, .string tb, .int .i64 i] (fun k_ => k_ ≠ w.heap.size) (fun _ => False) rfl (by first | (go_simp; done) | (go_simp; rfl)) ?aP (fun _ hk => hk.elim) ?aF ?aO ?aB ?aS ?aL ?_; (case aP => exact k33_mkM _ _ _ (⟨kd, tb, (i : Int)⟩ : S33)); (case aF => exact (HI5.out.alloc _).fresh); (case aO => exact Kd.R_alloc HO5.out _); (case aB => exact below_alloc HB5.out _); (case aS => exact (below_alloc HB5.out _).size); (case aL => have := HPL.out; rw [List.length_map]; omega); intro v7 w7 ho hb hg hat; have HI7 := Aside0.mk ((HI5.out.alloc _).grown hg (Kd.R_away HO5.out (fun _ h => h))); have HB7 := Aside0.mk hb; have HO7 := Aside0.mk ho; clear ho hb hg hat))
          go_roundg (a0.size - i2)
          case measure => have := HIN.out; have := HN1.out; have := HHI.out; omega
          case rel => exact ⟨i2, pre ++ [(kd, t, i)], by omega, ⟨by rw [List.map_append]; have := HO8.out; rw [HTB.out] at this; exact this⟩, ⟨hI8⟩, ⟨hB8⟩, HT2, ⟨by have := HIN.out; have := HN1.out; have := HHI.out; have := HP.out; simp; omega⟩⟩
end Go.Proofs.YtaibkpbiccibjaaGreatDoor.PAll
