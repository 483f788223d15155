/- The scanner of layer 2: what is skipped. -/
import Derived.Test.YtaibkpbiccibjaaGreatDoorLRun
import Derived.Lib.IndexBytes
set_option linter.unusedVariables false
namespace Go.Proofs.YtaibkpbiccibjaaGreatDoor.PAll
open Go.RowKit Go.Proofs.YtaibkpbiccibjaaGreatDoorW.PrintWords Go.Proofs.YtaibkpbiccibjaaGreatDoorW.PrintLast Go.Proofs.YtaibkpbiccibjaaGreatDoorW.PrintMore

theorem inCls_bl (b : UInt8) : inCls [1] b = Lx.isBl b := by
  have h : ∀ n : Fin 256, inCls [1] (UInt8.ofNat n.val) = Lx.isBl (UInt8.ofNat n.val) := by decide +kernel
  have := h ⟨b.toNat, b.toNat_lt⟩
  simpa using this
theorem ib_spec : ∀ l : List UInt8, (Lib.indexByte l 10 = -1 ∧ Lx.skipC true l = l.length) ∨ ∃ i : Nat, Lib.indexByte l 10 = i ∧ i < l.length ∧ Lx.skipC true l = i + Lx.skipC false (l.drop i)
  | [] => .inl ⟨rfl, rfl⟩
  | d :: t => by
    by_cases hd : d = 10
    · subst hd
      refine .inr ⟨0, by simp [Lib.indexByte], by simp, ?_⟩
      simp [Lx.skipC, Lx.isBl]
    · have hd' : ¬ d.toNat = 10 := fun e => hd (UInt8.toNat_inj.1 e)
      rcases ib_spec t with ⟨h1, h2⟩ | ⟨i, h1, h2, h3⟩
      · exact .inl ⟨by simp [Lib.indexByte, hd, h1], by simp [Lx.skipC, hd', h2]⟩
      · refine .inr ⟨i + 1, by simp [Lib.indexByte, hd, h1], by simp; omega, ?_⟩
        simp [Lx.skipC, hd', h3]; omega
theorem skip_run : ∀ l : List UInt8, Lx.skipC false l = (l.takeWhile (inCls [1])).length + Lx.skipC false (l.drop (l.takeWhile (inCls [1])).length)
  | [] => by simp [Lx.skipC]
  | b :: r => by
    by_cases h : Lx.isBl b = true
    · have h' : inCls [1] b = true := by rw [inCls_bl]; exact h
      rw [List.takeWhile_cons, if_pos h', List.length_cons, List.drop_succ_cons, Lx.skipC, if_pos h]
      have := skip_run r
      omega
    · have h' : ¬ inCls [1] b = true := by rw [inCls_bl]; exact h
      rw [List.takeWhile_cons, if_neg h']; simp
theorem run_stop (l : List UInt8) : ∀ b r, l.drop (l.takeWhile (inCls [1])).length = b :: r → Lx.isBl b = false := by
  induction l with
  | nil => intro b r h; simp at h
  | cons c t ih =>
    intro b r h
    by_cases hc : inCls [1] c = true
    · rw [List.takeWhile_cons, if_pos hc, List.length_cons, List.drop_succ_cons] at h
      exact ih b r h
    · rw [List.takeWhile_cons, if_neg hc] at h
      simp at h
      obtain ⟨rfl, rfl⟩ := h
      rw [inCls_bl] at hc
      simpa using hc
theorem skip_dash (r : List UInt8) : Lx.skipC false (45 :: 45 :: r) = Lx.skipC true (45 :: 45 :: r) := by
  simp [Lx.skipC, Lx.isBl]
theorem skip_not {l : List UInt8} (hb : ∀ b r, l = b :: r → Lx.isBl b = false) (h : Lib.hasPrefix l [45, 45] = false) : Lx.skipC false l = 0 := by
  cases l with
  | nil => rfl
  | cons b r =>
    have := hb b r rfl
    rw [Lx.skipC, if_neg (by simp [this]), if_neg]
    rintro ⟨h1, h2⟩
    have hb' : b = 45 := UInt8.toNat_inj.1 h1
    cases r with
    | nil => simp at h2
    | cons c t => simp at h2; subst h2; subst hb'; simp [Lib.hasPrefix] at h
theorem dash_of {l : List UInt8} (h : Lib.hasPrefix l [45, 45] = true) : ∃ r, l = 45 :: 45 :: r := by
  have : [45, 45] <+: l := List.isPrefixOf_iff_prefix.1 h
  obtain ⟨r, rfl⟩ := this
  exact ⟨r, rfl⟩

theorem drop_bytes (s : ByteArray) (i : Nat) : (s.extract i s.size).data.toList = s.data.toList.drop i := by
  rw [ByteArray.data_extract]
  simp
  apply List.take_of_length_le
  simp
set_option maxHeartbeats 4000000 in
set_option maxRecDepth 100000 in
theorem rest_calls (g : Nat) (s : ByteArray) (a : Nat) (w : World) (h0 : w.cell? ⟨g, 0, none⟩ = some (.string s)) (h1 : w.cell? ⟨g, 1, none⟩ = some (.int .i64 a)) (ha : a ≤ s.size) :
    Calls Tryz.prog 33 #[.pointer (some ⟨g, 0, none⟩)] w fun e w' => e = .returned (.string (s.extract a s.size)) ∧ ∃ n, w' = w.drewN n := by
  have i0 : (0 : Int) ≤ (a : Int) := by omega
  have i1 : (a : Int) ≤ (s.size : Int) := by omega
  have i2 : decide ((0 : Int) ≤ (a : Int)) = true := decide_eq_true i0
  have i3 : decide ((a : Int) ≤ (s.size : Int)) = true := decide_eq_true i1
  go_enter Tryz.func33, Tryz.ntmps33
  go_wp2
  repeat (go_quiet (fail); try go_wp2)
  go_ret
  exact ⟨by first | rfl | simp, _, rfl⟩

set_option maxHeartbeats 4000000 in
set_option maxRecDepth 100000 in
theorem skip_calls (g : Nat) (s : ByteArray) (a0 : Nat) (w0 w : World) (hI : IsS43 w0 w g s a0) (hB : Below w0.heap.size w0 w) (ha : a0 ≤ s.size) (hsz : s.size ≤ 4000) :
    Calls Tryz.prog 19 #[.pointer (some ⟨g, 0, none⟩)] w fun e w' =>
      e = .returned (.tuple #[]) ∧ IsS43 w0 w' g s ((a0 + Lx.skipC false (s.data.toList.drop a0) : Nat) : Int) ∧ Below w0.heap.size w0 w' ∧ KeepBut w w' g none := by
  have HI0 := Aside0.mk hI
  have HB0 := Aside0.mk hB
  clear hI hB
  go_enter Tryz.func19, Tryz.ntmps19
  go_wp2
  go_loopg [] (s.size - a0) (fun gk wx => ∃ a : Nat, a + gk = s.size ∧ Aside0 (IsS43 w0 wx g s a) ∧ Aside0 (Below w0.heap.size w0 wx) ∧ Aside0 (KeepBut w wx g none) ∧ Aside0 (a0 + Lx.skipC false (s.data.toList.drop a0) = a + Lx.skipC false (s.data.toList.drop a)))
  case atStart => exact ⟨a0, by omega, HI0, HB0, ⟨KeepBut.refl _ _ _⟩, ⟨rfl⟩⟩
  case round =>
    obtain ⟨a, ha1, HI, HB, HK, HS⟩ := hrel
    have hcz0 := cellS43_0 HI.out.1
    have hcz1 := cellS43_1 HI.out.1
    have hfz0 := blk_frozen HI.out.1 0
    have hfz1 := blk_frozen HI.out.1 1
    have mixed : Tryz.prog.follows .mixedOrders = true := by kernel_rfl
    have hsize : a ≤ s.size := by omega
    have HA := Aside0.mk (HI.out.alloc (Obj.cells #[Value.int IntKind.i64 1] 3))
    have hA0 := cellS43_0 HA.out.1
    have hA1 := cellS43_1 HA.out.1
    have hAf := blk_frozen HA.out.1 1
    have hAc : (wr.alloc (Obj.cells #[Value.int IntKind.i64 1] 3)).cell? ⟨wr.heap.size, 0, none⟩ = some (.int .i64 1) := (blk_cell (blk_new wr (Obj.cells #[Value.int IntKind.i64 1] 3)) 0).trans rfl
    have HR : Aside0 (Calls Tryz.prog 31 #[.pointer (some ⟨g, 0, none⟩), .int .i64 a, .slice (some ⟨wr.heap.size, 0, none⟩) 1 1] (wr.alloc (Obj.cells #[Value.int IntKind.i64 1] 3)).drew fun e w' => e = .returned (.int .i64 ((s.data.toList.drop a).takeWhile (inCls [1])).length) ∧ Drawn0 (wr.alloc (Obj.cells #[Value.int IntKind.i64 1] 3)).drew w') :=
      ⟨run_calls g s a wr.heap.size 0 1 [1] _ hA0 hsize (by omega) (by simp) (fun j hj => by
        obtain rfl : j = 0 := by simp at hj; omega
        exact hAc)⟩
    generalize hN : ((s.data.toList.drop a).takeWhile (inCls [1])).length = N at *
    have hNl : N ≤ (s.data.toList.drop a).length := by rw [← hN]; exact Lx.takeWhile_len _
    have hNs : a + N ≤ s.size := by
      rw [List.length_drop] at hNl
      have : s.data.toList.length = s.size := by simp
      omega
    have hw : IntKind.i64.wrap ((a : Int) + (N : Int)) = (a : Int) + (N : Int) := by rw [IntKind.wrap_i64]; omega
    have hw2 : (a : Int) + (N : Int) = ((a + N : Nat) : Int) := by omega
    go_upto_region 0 with fail
    go_cut [] (fun wx => Aside0 (IsS43 w0 wx g s ((a + N : Nat) : Int)) ∧ Aside0 (Below w0.heap.size w0 wx) ∧ Aside0 (KeepBut w wx g none))
    case first =>
      have HP : ∀ n, Aside0 (IsS43 w0 (((wr.alloc (Obj.cells #[Value.int IntKind.i64 1] 3)).drewN n).setCell { block := g, off := 1 } (Value.int IntKind.i64 (↑a + ↑N))) g s ((a + N : Nat) : Int)) ∧ Aside0 (Below w0.heap.size w0 (((wr.alloc (Obj.cells #[Value.int IntKind.i64 1] 3)).drewN n).setCell { block := g, off := 1 } (Value.int IntKind.i64 (↑a + ↑N)))) ∧ Aside0 (KeepBut w (((wr.alloc (Obj.cells #[Value.int IntKind.i64 1] 3)).drewN n).setCell { block := g, off := 1 } (Value.int IntKind.i64 (↑a + ↑N))) g none) := by
        intro n
        rw [hw2]
        refine ⟨⟨(HA.out.drewN n).set_1 _⟩, ⟨?_⟩, ⟨?_⟩⟩
        · exact below_set (pw_below_drewN (below_alloc HB.out _) n) HI.out.ge
        · refine KeepBut.set_ (KeepBut.trans HK.out (KeepBut.of_below (pw_below_drewN (below_alloc (Below.refl _ _) _) n) g none) (.inl rfl)) 1 _
      clear HI HB HK HA hw2
      go_region_with (go_at_call 31; refine HR.out.mono ?_; rintro e w' ⟨rfl, ⟨n, rfl⟩⟩)
      all_goals (go_wp2_with fail; go_meet; exact HP _)
    case rest =>
    obtain ⟨HI1, HB1, HK1⟩ := hcut
    clear HI HB HK hcz0 hcz1 hfz0 hfz1 HA hA0 hA1 hAf hAc HR
    have hL : s.data.toList.length = s.size := by simp
    have HS1 : Aside0 (a0 + Lx.skipC false (s.data.toList.drop a0) = (a + N) + Lx.skipC false (s.data.toList.drop (a + N))) := by
      have h1 := HS.out
      have h2 := skip_run (s.data.toList.drop a)
      rw [hN, List.drop_drop] at h2
      exact ⟨by omega⟩
    have HST : Aside0 (∀ b r, s.data.toList.drop (a + N) = b :: r → Lx.isBl b = false) := by
      have h2 := run_stop (s.data.toList.drop a)
      rw [hN, List.drop_drop] at h2
      exact ⟨h2⟩
    clear hN HS hNl hw hw2
    generalize hbb : a + N = b at *
    have hcz0 := cellS43_0 HI1.out.1
    have hcz1 := cellS43_1 HI1.out.1
    have hfz1 := blk_frozen HI1.out.1 1
    have HR : ∀ m, Aside0 (Calls Tryz.prog 33 #[.pointer (some ⟨g, 0, none⟩)] (wc.drewN m) fun e w' => e = .returned (.string (s.extract b s.size)) ∧ ∃ n, w' = (wc.drewN m).drewN n) := fun m => ⟨rest_calls g s b (wc.drewN m) hcz0 hcz1 hNs⟩
    have HR0 : Aside0 (Calls Tryz.prog 33 #[.pointer (some ⟨g, 0, none⟩)] wc fun e w' => e = .returned (.string (s.extract b s.size)) ∧ ∃ n, w' = wc.drewN n) := ⟨rest_calls g s b wc hcz0 hcz1 hNs⟩
    have HP : ∀ w1, Aside0 (Calls Tryz.prog 32 #[.string (s.extract b s.size), .string ⟨#[45, 45]⟩] w1 fun e w' => e = .returned (.bool (Lib.hasPrefix (s.data.toList.drop b) [45, 45])) ∧ w' = w1) := by
      intro w1
      have := Tryz.strings_HasPrefix (s.extract b s.size) ⟨#[45, 45]⟩ w1
      rw [drop_bytes] at this
      exact ⟨this⟩
    have HX : ∀ w1, Aside0 (Calls Tryz.prog 34 #[.string (s.extract b s.size), .int .u8 10] w1 fun e w' => e = .returned (.int .i64 (Lib.indexByte (s.data.toList.drop b) 10)) ∧ w' = w1) := by
      intro w1
      have := Tryz.strings_IndexByte (s.extract b s.size) 10 w1
      rw [drop_bytes] at this
      exact ⟨this⟩
    cases hp : Lib.hasPrefix (s.data.toList.drop b) [45, 45] with
    | false =>
      simp only [hp] at HP
      have hz := skip_not HST.out hp
      go_wp2_with (first | (go_at_call 33; (with_reducible refine HR0.out.mono ?_); rintro e w' ⟨rfl, ⟨n, rfl⟩⟩) | (go_at_call 33; (with_reducible refine (HR _).out.mono ?_); rintro e w' ⟨rfl, ⟨n2, rfl⟩⟩) | (go_at_call 32; (with_reducible refine (HP _).out.mono ?_); rintro e w' ⟨rfl, hw'⟩; rw [hw']))
      refine bodyPost_ret (results_none rfl _ _ _) rfl ?_
      rw [HS1.out, hz]
      exact ⟨rfl, HI1.out.drewN _, pw_below_drewN HB1.out _, KeepBut.trans HK1.out (KeepBut.of_below (pw_below_drewN (Below.refl _ _) _) g none) (.inl rfl)⟩
    | true =>
      simp only [hp] at HP
      obtain ⟨r, hr⟩ := dash_of hp
      have hlt : b + 2 ≤ s.size := by
        have := congrArg List.length hr
        simp at this
        omega
      have hdash : Lx.skipC false (s.data.toList.drop b) = Lx.skipC true (s.data.toList.drop b) := by rw [hr]; exact skip_dash r
      rcases ib_spec (s.data.toList.drop b) with ⟨h1, h2⟩ | ⟨i, h1, h2, h3⟩
      · simp only [h1] at HX
        have HE : Aside0 (a0 + Lx.skipC false (s.data.toList.drop a0) = s.size + Lx.skipC false (s.data.toList.drop s.size)) := by
          have e : s.data.toList.drop s.size = [] := List.drop_eq_nil_of_le (by simp)
          have h4 := HS1.out
          rw [hdash, h2, List.length_drop] at h4
          rw [e, h4]
          simp [Lx.skipC]
          exact ⟨by omega⟩
        clear HS1 HST hdash h1 h2 hr
        go_wp2_with (first | (go_at_call 33; (with_reducible refine HR0.out.mono ?_); rintro e w' ⟨rfl, ⟨n, rfl⟩⟩) | (go_at_call 33; (with_reducible refine (HR _).out.mono ?_); rintro e w' ⟨rfl, ⟨n2, rfl⟩⟩) | (go_at_call 32; (with_reducible refine (HP _).out.mono ?_); rintro e w' ⟨rfl, hw'⟩; rw [hw']) | (go_at_call 34; (with_reducible refine (HX _).out.mono ?_); rintro e w' ⟨rfl, hw'⟩; rw [hw']))
        go_roundg 0
        case measure => omega
        case rel => exact ⟨s.size, by omega, ⟨(HI1.out.drewN _).set_1 _⟩, ⟨below_set (pw_below_drewN HB1.out _) HI1.out.ge⟩, ⟨KeepBut.set_ (KeepBut.trans HK1.out (KeepBut.of_below (pw_below_drewN (Below.refl _ _) _) g none) (.inl rfl)) 1 _⟩, HE⟩
      · simp only [h1] at HX
        have hi2 : 2 ≤ i := by
          have e1 : ∀ (d : UInt8) (t : List UInt8), d ≠ 10 → Lib.indexByte (d :: t) 10 = if Lib.indexByte t 10 = -1 then -1 else Lib.indexByte t 10 + 1 := fun d t hd => by simp [Lib.indexByte, hd]
          have h5 := Lib.indexByte_ge r 10
          rw [hr, e1 _ _ (by decide), e1 _ _ (by decide)] at h1
          split at h1
          · omega
          · split at h1 <;> rename_i h6 h7 <;> simp_all <;> omega
        have hiL : b + i < s.size := by rw [List.length_drop] at h2; omega
        have HE : Aside0 (a0 + Lx.skipC false (s.data.toList.drop a0) = (b + i) + Lx.skipC false (s.data.toList.drop (b + i))) := by
          have h4 := HS1.out
          rw [hdash, h3, List.drop_drop] at h4
          exact ⟨by omega⟩
        have hi0 : (0 : Int) ≤ (i : Int) := by omega
        have hw : IntKind.i64.wrap ((b : Int) + (i : Int)) = (b : Int) + (i : Int) := by rw [IntKind.wrap_i64]; omega
        have HV : Aside0 ((b : Int) + (i : Int) = ((b + i : Nat) : Int)) := ⟨by omega⟩
        clear HS1 HST hdash h1 h2 h3 hr
        go_wp2_with (first | (go_at_call 33; (with_reducible refine HR0.out.mono ?_); rintro e w' ⟨rfl, ⟨n, rfl⟩⟩) | (go_at_call 33; (with_reducible refine (HR _).out.mono ?_); rintro e w' ⟨rfl, ⟨n2, rfl⟩⟩) | (go_at_call 32; (with_reducible refine (HP _).out.mono ?_); rintro e w' ⟨rfl, hw'⟩; rw [hw']) | (go_at_call 34; (with_reducible refine (HX _).out.mono ?_); rintro e w' ⟨rfl, hw'⟩; rw [hw']))
        go_roundg (s.size - (b + i))
        case measure => omega
        case rel => exact ⟨b + i, by omega, ⟨by rw [← HV.out]; exact (HI1.out.drewN _).set_1 _⟩, ⟨below_set (pw_below_drewN HB1.out _) HI1.out.ge⟩, ⟨KeepBut.set_ (KeepBut.trans HK1.out (KeepBut.of_below (pw_below_drewN (Below.refl _ _) _) g none) (.inl rfl)) 1 _⟩, HE⟩
end Go.Proofs.YtaibkpbiccibjaaGreatDoor.PAll
