/- lex.valid: is a token one that can be written. -/
import Derived.Test.YtaibkpbiccibjaaGreatDoorLTok
set_option linter.unusedVariables false
namespace Go.Proofs.YtaibkpbiccibjaaGreatDoor.PAll
open Go.RowKit Go.Proofs.YtaibkpbiccibjaaGreatDoorW.PrintWords Go.Proofs.YtaibkpbiccibjaaGreatDoorW.PrintLast Go.Proofs.YtaibkpbiccibjaaGreatDoorW.PrintMore

/-- What valid returns. -/
def validR (kd : Int) (t : ByteArray) : Bool :=
  if kd = 4 then decide (t.size ≤ 100)
  else if h : 0 < t.size then (if 4000 < t.size then false else (if cls t[0] = 1 then false else (match Lx.tokL isKw marksL t.data.toList with
    | .bad _ => false
    | .good k x n => decide (n = t.size) && decide (k = kd) && decide (x = t.data.toList))))
  else false

theorem valid_text (t : ByteArray) (pos : Int) (w : World) :
    Calls Tryz.prog 12 #[.agg #[.int .u8 4, .string t, .int .i64 pos]] w fun e w' => e = .returned (.bool (decide (t.size ≤ 100))) ∧ Below w.heap.size w w' := by
  have hc : decide ((t.size : Int) ≤ 100) = decide (t.size ≤ 100) := by
    rw [Bool.eq_iff_iff, decide_eq_true_eq, decide_eq_true_eq]
    omega
  rw [← hc]
  clear hc
  go_enter Tryz.func12, Tryz.ntmps12
  go_wp2
  go_ret
  exact ⟨rfl, below_alloc (Below.refl _ _) _⟩

theorem valid_short (kd : Int) (t : ByteArray) (pos : Int) (w : World) (hkd : kd ≠ 4) (h0 : t.size = 0 ∨ 4000 < t.size) :
    Calls Tryz.prog 12 #[.agg #[.int .u8 kd, .string t, .int .i64 pos]] w fun e w' => e = .returned (.bool false) ∧ Below w.heap.size w w' := by
  have b1 : (kd == 4) = false := beq_eq_false_iff_ne.mpr hkd
  have hz : t.size = 0 → t = ⟨#[]⟩ := fun h => by
    apply ByteArray.ext
    exact Array.eq_empty_of_size_eq_zero h
  go_enter Tryz.func12, Tryz.ntmps12
  by_cases hs : t.size = 0
  · obtain rfl := hz hs
    go_wp2
    go_ret
    exact ⟨rfl, below_alloc (below_alloc (Below.refl _ _) _) _⟩
  · have hb : (4000 : Int) < (t.size : Int) := by omega
    have hne : t.toList ≠ ([] : List UInt8) := by
      rw [Lib.toList_data]
      intro h
      have h1 := congrArg List.length h
      have h2 : t.data.toList.length = t.size := by simp
      rw [h2, List.length_nil] at h1
      omega
    have b2 : (t.toList == ([] : List UInt8)) = false := beq_eq_false_iff_ne.mpr hne
    have b3 : t.toList.isEmpty = false := by cases hh : t.toList with | nil => exact absurd hh hne | cons _ _ => rfl
    go_wp2
    go_ret
    exact ⟨rfl, below_alloc (below_alloc (Below.refl _ _) _) _⟩

theorem ne_facts {t : ByteArray} (h0 : 0 < t.size) : (t.toList == ([] : List UInt8)) = false ∧ t.toList.isEmpty = false := by
  have hne : t.toList ≠ ([] : List UInt8) := by
    rw [Lib.toList_data]
    intro h
    have h1 := congrArg List.length h
    have h2 : t.data.toList.length = t.size := by simp
    rw [h2, List.length_nil] at h1
    omega
  exact ⟨beq_eq_false_iff_ne.mpr hne, by cases hh : t.toList with | nil => exact absurd hh hne | cons _ _ => rfl⟩

theorem valid_blank (kd : Int) (t : ByteArray) (pos : Int) (w : World) (hkd : kd ≠ 4) (h0 : 0 < t.size) (h4 : t.size ≤ 4000) (hc : cls t[0] = 1) :
    Calls Tryz.prog 12 #[.agg #[.int .u8 kd, .string t, .int .i64 pos]] w fun e w' => e = .returned (.bool false) ∧ Below w.heap.size w w' := by
  have b1 : (kd == 4) = false := beq_eq_false_iff_ne.mpr hkd
  obtain ⟨b2, b3⟩ := ne_facts h0
  have hb : ¬ (4000 : Int) < (t.size : Int) := by omega
  have hi0 : (0 : Int) < (t.size : Int) := by omega
  have HC : ∀ w0, Aside0 (Calls Tryz.prog 27 #[.int .u8 t[0].toNat] w0 fun e w' => e = .returned (.int .i64 1) ∧ Drawn0 w0 w') := fun w0 => ⟨by have := cls_calls t[0] w0; rw [hc] at this; exact this⟩
  clear hc
  go_enter Tryz.func12, Tryz.ntmps12
  go_wp2_with (go_at_call 27; refine (HC _).out.mono ?_; rintro e w' ⟨rfl, ⟨n, rfl⟩⟩)
  go_ret
  exact ⟨rfl, pw_below_drewN (below_alloc (below_alloc (Below.refl _ _) _) _) _⟩

set_option maxHeartbeats 4000000 in
theorem valid_next (kd : Int) (t : ByteArray) (pos : Int) (w : World) (hL : LaidL w) (hkd : kd ≠ 4) (h0 : 0 < t.size) (h4 : t.size ≤ 4000) (hc : cls t[0] ≠ 1) :
    Calls Tryz.prog 12 #[.agg #[.int .u8 kd, .string t, .int .i64 pos]] w fun e w' => e = .returned (.bool (decide ((nextR t 0).2.1 = 0) && decide ((nextR t 0).2.2 = t.size) && decide ((nextR t 0).1.1 = kd) && decide ((nextR t 0).1.2.1.toList = t.toList))) ∧ Below w.heap.size w w' := by
  have b1 : (kd == 4) = false := beq_eq_false_iff_ne.mpr hkd
  obtain ⟨b2, b3⟩ := ne_facts h0
  have hb : ¬ (4000 : Int) < (t.size : Int) := by omega
  have hi0 : (0 : Int) < (t.size : Int) := by omega
  have b4 : (cls t[0] == 1) = false := beq_eq_false_iff_ne.mpr hc
  have HC : ∀ w0, Aside0 (Calls Tryz.prog 27 #[.int .u8 t[0].toNat] w0 fun e w' => e = .returned (.int .i64 (cls t[0])) ∧ Drawn0 w0 w') := fun w0 => ⟨cls_calls t[0] w0⟩
  have HB1 : Aside0 (Below w.heap.size w (w.alloc (.cells #[.int .u8 kd, .string t, .int .i64 pos] 34))) := ⟨below_alloc (Below.refl _ _) _⟩
  have hI := IsS43.new w (w.alloc (.cells #[.int .u8 kd, .string t, .int .i64 pos] 34)) t 0 HB1.out
  rw [World.size_alloc] at hI
  have hbx : ((w.alloc (.cells #[.int .u8 kd, .string t, .int .i64 pos] 34)).alloc (.cells #[.string t, .int .i64 0] 51)).heap[w.heap.size]? = some (.cells #[.int .u8 kd, .string t, .int .i64 pos] 34 (0, 0)) := blk_alloc (blk_new _ _) _
  have hB2 : Below w.heap.size w ((w.alloc (.cells #[.int .u8 kd, .string t, .int .i64 pos] 34)).alloc (.cells #[.string t, .int .i64 0] 51)) := below_alloc HB1.out _
  have HN : ∀ n, Aside0 (Calls Tryz.prog 20 #[.pointer (some ⟨w.heap.size + 1, 0, none⟩)] (((w.alloc (.cells #[.int .u8 kd, .string t, .int .i64 pos] 34)).alloc (.cells #[.string t, .int .i64 0] 51)).drewN n) fun e w' =>
      e = .returned (.tuple #[.agg #[.int .u8 (nextR t 0).1.1, .string (nextR t 0).1.2.1, .int .i64 (nextR t 0).1.2.2], .int .i64 (nextR t 0).2.1]) ∧
      w'.heap[w.heap.size + 1]? = some (.cells #[.string t, .int .i64 ((nextR t 0).2.2 : Nat)] 51 (0, 0)) ∧ w'.heap[w.heap.size]? = some (.cells #[.int .u8 kd, .string t, .int .i64 pos] 34 (0, 0)) ∧ Below w.heap.size w w') := by
    intro n
    refine ⟨(next_calls (w.heap.size + 1) t 0 w _ hL ⟨blk_drewN hI.1 n, hI.2⟩ (pw_below_drewN hB2 n) h0 h4).mono ?_⟩
    rintro e w' ⟨rfl, hI', hB', hK'⟩
    exact ⟨rfl, hI'.1, hK'.blk (blk_drewN hbx n) (by omega) (by simp), hB'⟩
  have HW1 : Aside0 (1 = 1) := ⟨rfl⟩
  clear hI hbx hB2 hc HB1
  generalize nextR t 0 = R at *
  obtain ⟨⟨k, x, p⟩, er, nx⟩ := R
  simp only at HN ⊢
  clear hL
  have b5 : decide (er = 0) = (er == 0) := by rw [Bool.eq_iff_iff]; simp
  have b6 : decide (nx = t.size) = ((nx : Int) == (t.size : Int)) := by rw [Bool.eq_iff_iff, decide_eq_true_eq, beq_iff_eq]; omega
  have b7 : decide (k = kd) = (k == kd) := by rw [Bool.eq_iff_iff]; simp
  have b8 : decide (x.toList = t.toList) = (x.toList == t.toList) := by rw [Bool.eq_iff_iff]; simp
  rw [b5, b6, b7, b8]
  clear b5 b6 b7 b8
  by_cases e1 : er = 0
  · subst e1
    by_cases e2 : (nx : Int) = (t.size : Int)
    · have c2 : ((nx : Int) == (t.size : Int)) = true := beq_iff_eq.mpr e2; clear e2
      by_cases e3 : k = kd
      · have c3 : (k == kd) = true := beq_iff_eq.mpr e3; clear e3
        by_cases e4 : x.toList = t.toList
        · have c4 : (x.toList == t.toList) = true := beq_iff_eq.mpr e4; clear e4
          go_enter Tryz.func12, Tryz.ntmps12
          go_upto_region 7 with (first | (go_at_call 27; refine (HC _).out.mono ?_; rintro e w' ⟨rfl, ⟨n, rfl⟩⟩) | (go_at_call 20; refine (HN _).out.mono ?_; rintro e w5 ⟨rfl, hS5, hX5, hB5⟩; have x0 : w5.cell? ⟨w.heap.size, 0, none⟩ = some (.int .u8 kd) := (blk_cell hX5 0).trans rfl; have x1 : w5.cell? ⟨w.heap.size, 1, none⟩ = some (.string t) := (blk_cell hX5 1).trans rfl; have y1 := cellS43_1 hS5; have HB5 := Aside0.mk hB5; clear hB5))
          have z0 : (w5.alloc (Obj.cells #[.int .u8 k, .string x, .int .i64 p] 34)).cell? ⟨w.heap.size, 0, none⟩ = some (.int .u8 kd) := (blk_cell (blk_alloc hX5 _) 0).trans rfl
          have z1 : (w5.alloc (Obj.cells #[.int .u8 k, .string x, .int .i64 p] 34)).cell? ⟨w.heap.size, 1, none⟩ = some (.string t) := (blk_cell (blk_alloc hX5 _) 1).trans rfl
          have z2 : (w5.alloc (Obj.cells #[.int .u8 k, .string x, .int .i64 p] 34)).cell? ⟨w.heap.size + 1, 1, none⟩ = some (.int .i64 nx) := (blk_cell (blk_alloc hS5 _) 1).trans rfl
          have z3 : (w5.alloc (Obj.cells #[.int .u8 k, .string x, .int .i64 p] 34)).cell? ⟨w5.heap.size, 0, none⟩ = some (.int .u8 k) := (blk_cell (blk_new w5 (Obj.cells #[.int .u8 k, .string x, .int .i64 p] 34)) 0).trans rfl
          have z4 : (w5.alloc (Obj.cells #[.int .u8 k, .string x, .int .i64 p] 34)).cell? ⟨w5.heap.size, 1, none⟩ = some (.string x) := (blk_cell (blk_new w5 (Obj.cells #[.int .u8 k, .string x, .int .i64 p] 34)) 1).trans rfl
          go_wp2
          go_ret
          exact ⟨by first | rfl | simp [*], by repeat (first | exact HB5.out | apply below_alloc | apply pw_below_drewN)⟩
        · have c4 : (x.toList == t.toList) = false := beq_eq_false_iff_ne.mpr e4; clear e4
          go_enter Tryz.func12, Tryz.ntmps12
          go_upto_region 7 with (first | (go_at_call 27; refine (HC _).out.mono ?_; rintro e w' ⟨rfl, ⟨n, rfl⟩⟩) | (go_at_call 20; refine (HN _).out.mono ?_; rintro e w5 ⟨rfl, hS5, hX5, hB5⟩; have x0 : w5.cell? ⟨w.heap.size, 0, none⟩ = some (.int .u8 kd) := (blk_cell hX5 0).trans rfl; have x1 : w5.cell? ⟨w.heap.size, 1, none⟩ = some (.string t) := (blk_cell hX5 1).trans rfl; have y1 := cellS43_1 hS5; have HB5 := Aside0.mk hB5; clear hB5))
          have z0 : (w5.alloc (Obj.cells #[.int .u8 k, .string x, .int .i64 p] 34)).cell? ⟨w.heap.size, 0, none⟩ = some (.int .u8 kd) := (blk_cell (blk_alloc hX5 _) 0).trans rfl
          have z1 : (w5.alloc (Obj.cells #[.int .u8 k, .string x, .int .i64 p] 34)).cell? ⟨w.heap.size, 1, none⟩ = some (.string t) := (blk_cell (blk_alloc hX5 _) 1).trans rfl
          have z2 : (w5.alloc (Obj.cells #[.int .u8 k, .string x, .int .i64 p] 34)).cell? ⟨w.heap.size + 1, 1, none⟩ = some (.int .i64 nx) := (blk_cell (blk_alloc hS5 _) 1).trans rfl
          have z3 : (w5.alloc (Obj.cells #[.int .u8 k, .string x, .int .i64 p] 34)).cell? ⟨w5.heap.size, 0, none⟩ = some (.int .u8 k) := (blk_cell (blk_new w5 (Obj.cells #[.int .u8 k, .string x, .int .i64 p] 34)) 0).trans rfl
          have z4 : (w5.alloc (Obj.cells #[.int .u8 k, .string x, .int .i64 p] 34)).cell? ⟨w5.heap.size, 1, none⟩ = some (.string x) := (blk_cell (blk_new w5 (Obj.cells #[.int .u8 k, .string x, .int .i64 p] 34)) 1).trans rfl
          go_wp2
          go_ret
          exact ⟨by first | rfl | simp [*], by repeat (first | exact HB5.out | apply below_alloc | apply pw_below_drewN)⟩
      · have c3 : (k == kd) = false := beq_eq_false_iff_ne.mpr e3; clear e3
        go_enter Tryz.func12, Tryz.ntmps12
        go_upto_region 7 with (first | (go_at_call 27; refine (HC _).out.mono ?_; rintro e w' ⟨rfl, ⟨n, rfl⟩⟩) | (go_at_call 20; refine (HN _).out.mono ?_; rintro e w5 ⟨rfl, hS5, hX5, hB5⟩; have x0 : w5.cell? ⟨w.heap.size, 0, none⟩ = some (.int .u8 kd) := (blk_cell hX5 0).trans rfl; have x1 : w5.cell? ⟨w.heap.size, 1, none⟩ = some (.string t) := (blk_cell hX5 1).trans rfl; have y1 := cellS43_1 hS5; have HB5 := Aside0.mk hB5; clear hB5))
        have z0 : (w5.alloc (Obj.cells #[.int .u8 k, .string x, .int .i64 p] 34)).cell? ⟨w.heap.size, 0, none⟩ = some (.int .u8 kd) := (blk_cell (blk_alloc hX5 _) 0).trans rfl
        have z1 : (w5.alloc (Obj.cells #[.int .u8 k, .string x, .int .i64 p] 34)).cell? ⟨w.heap.size, 1, none⟩ = some (.string t) := (blk_cell (blk_alloc hX5 _) 1).trans rfl
        have z2 : (w5.alloc (Obj.cells #[.int .u8 k, .string x, .int .i64 p] 34)).cell? ⟨w.heap.size + 1, 1, none⟩ = some (.int .i64 nx) := (blk_cell (blk_alloc hS5 _) 1).trans rfl
        have z3 : (w5.alloc (Obj.cells #[.int .u8 k, .string x, .int .i64 p] 34)).cell? ⟨w5.heap.size, 0, none⟩ = some (.int .u8 k) := (blk_cell (blk_new w5 (Obj.cells #[.int .u8 k, .string x, .int .i64 p] 34)) 0).trans rfl
        have z4 : (w5.alloc (Obj.cells #[.int .u8 k, .string x, .int .i64 p] 34)).cell? ⟨w5.heap.size, 1, none⟩ = some (.string x) := (blk_cell (blk_new w5 (Obj.cells #[.int .u8 k, .string x, .int .i64 p] 34)) 1).trans rfl
        go_wp2
        go_ret
        exact ⟨by first | rfl | simp [*], by repeat (first | exact HB5.out | apply below_alloc | apply pw_below_drewN)⟩
    · have c2 : ((nx : Int) == (t.size : Int)) = false := beq_eq_false_iff_ne.mpr e2; clear e2
      go_enter Tryz.func12, Tryz.ntmps12
      go_upto_region 7 with (first | (go_at_call 27; refine (HC _).out.mono ?_; rintro e w' ⟨rfl, ⟨n, rfl⟩⟩) | (go_at_call 20; refine (HN _).out.mono ?_; rintro e w5 ⟨rfl, hS5, hX5, hB5⟩; have x0 : w5.cell? ⟨w.heap.size, 0, none⟩ = some (.int .u8 kd) := (blk_cell hX5 0).trans rfl; have x1 : w5.cell? ⟨w.heap.size, 1, none⟩ = some (.string t) := (blk_cell hX5 1).trans rfl; have y1 := cellS43_1 hS5; have HB5 := Aside0.mk hB5; clear hB5))
      have z0 : (w5.alloc (Obj.cells #[.int .u8 k, .string x, .int .i64 p] 34)).cell? ⟨w.heap.size, 0, none⟩ = some (.int .u8 kd) := (blk_cell (blk_alloc hX5 _) 0).trans rfl
      have z1 : (w5.alloc (Obj.cells #[.int .u8 k, .string x, .int .i64 p] 34)).cell? ⟨w.heap.size, 1, none⟩ = some (.string t) := (blk_cell (blk_alloc hX5 _) 1).trans rfl
      have z2 : (w5.alloc (Obj.cells #[.int .u8 k, .string x, .int .i64 p] 34)).cell? ⟨w.heap.size + 1, 1, none⟩ = some (.int .i64 nx) := (blk_cell (blk_alloc hS5 _) 1).trans rfl
      have z3 : (w5.alloc (Obj.cells #[.int .u8 k, .string x, .int .i64 p] 34)).cell? ⟨w5.heap.size, 0, none⟩ = some (.int .u8 k) := (blk_cell (blk_new w5 (Obj.cells #[.int .u8 k, .string x, .int .i64 p] 34)) 0).trans rfl
      have z4 : (w5.alloc (Obj.cells #[.int .u8 k, .string x, .int .i64 p] 34)).cell? ⟨w5.heap.size, 1, none⟩ = some (.string x) := (blk_cell (blk_new w5 (Obj.cells #[.int .u8 k, .string x, .int .i64 p] 34)) 1).trans rfl
      go_wp2
      go_ret
      exact ⟨by first | rfl | simp [*], by repeat (first | exact HB5.out | apply below_alloc | apply pw_below_drewN)⟩
  · have c1 : (er == 0) = false := beq_eq_false_iff_ne.mpr e1
    go_enter Tryz.func12, Tryz.ntmps12
    go_upto_region 7 with (first | (go_at_call 27; refine (HC _).out.mono ?_; rintro e w' ⟨rfl, ⟨n, rfl⟩⟩) | (go_at_call 20; refine (HN _).out.mono ?_; rintro e w5 ⟨rfl, hS5, hX5, hB5⟩; have x0 : w5.cell? ⟨w.heap.size, 0, none⟩ = some (.int .u8 kd) := (blk_cell hX5 0).trans rfl; have x1 : w5.cell? ⟨w.heap.size, 1, none⟩ = some (.string t) := (blk_cell hX5 1).trans rfl; have y1 := cellS43_1 hS5; have HB5 := Aside0.mk hB5; clear hB5))
    have z0 : (w5.alloc (Obj.cells #[.int .u8 k, .string x, .int .i64 p] 34)).cell? ⟨w.heap.size, 0, none⟩ = some (.int .u8 kd) := (blk_cell (blk_alloc hX5 _) 0).trans rfl
    have z1 : (w5.alloc (Obj.cells #[.int .u8 k, .string x, .int .i64 p] 34)).cell? ⟨w.heap.size, 1, none⟩ = some (.string t) := (blk_cell (blk_alloc hX5 _) 1).trans rfl
    have z2 : (w5.alloc (Obj.cells #[.int .u8 k, .string x, .int .i64 p] 34)).cell? ⟨w.heap.size + 1, 1, none⟩ = some (.int .i64 nx) := (blk_cell (blk_alloc hS5 _) 1).trans rfl
    have z3 : (w5.alloc (Obj.cells #[.int .u8 k, .string x, .int .i64 p] 34)).cell? ⟨w5.heap.size, 0, none⟩ = some (.int .u8 k) := (blk_cell (blk_new w5 (Obj.cells #[.int .u8 k, .string x, .int .i64 p] 34)) 0).trans rfl
    have z4 : (w5.alloc (Obj.cells #[.int .u8 k, .string x, .int .i64 p] 34)).cell? ⟨w5.heap.size, 1, none⟩ = some (.string x) := (blk_cell (blk_new w5 (Obj.cells #[.int .u8 k, .string x, .int .i64 p] 34)) 1).trans rfl
    go_wp2
    go_ret
    exact ⟨by first | rfl | simp [*], by repeat (first | exact HB5.out | apply below_alloc | apply pw_below_drewN)⟩
end Go.Proofs.YtaibkpbiccibjaaGreatDoor.PAll
