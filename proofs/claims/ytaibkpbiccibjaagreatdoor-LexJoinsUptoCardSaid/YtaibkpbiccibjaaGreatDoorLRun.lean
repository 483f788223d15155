/- The scanner of layer 2: classes of bytes, and how many bytes of some classes follow. -/
import Derived.Test.YtaibkpbiccibjaaGreatDoorLStub
set_option linter.unusedVariables false
namespace Go.Proofs.YtaibkpbiccibjaaGreatDoor.PAll
open Go.RowKit Go.Proofs.YtaibkpbiccibjaaGreatDoorW.PrintWords Go.Proofs.YtaibkpbiccibjaaGreatDoorW.PrintLast Go.Proofs.YtaibkpbiccibjaaGreatDoorW.PrintMore

/-- The class of a byte. -/
def cls (b : UInt8) : Int := if b = 32 ∨ b = 9 ∨ b = 10 ∨ b = 13 then 1 else (if b = 95 then 2 else (if b = 39 then 4 else (if (65 ≤ b ∧ b ≤ 90) ∨ (97 ≤ b ∧ b ≤ 122) then 2 else (if 48 ≤ b ∧ b ≤ 57 then 3 else 0))))
theorem cls_f (b : UInt8) : lex_class.f 5 b.toNat = some (cls b) := by
  have h : ∀ n : Fin 256, lex_class.f 5 ((UInt8.ofNat n.val).toNat : Nat) = some (cls (UInt8.ofNat n.val)) := by decide +kernel
  have := h ⟨b.toNat, b.toNat_lt⟩
  simpa using this
theorem cls_calls (b : UInt8) (w : World) : Calls Tryz.prog 27 #[.int .u8 b.toNat] w fun e w' => e = .returned (.int .i64 (cls b)) ∧ Drawn0 w w' :=
  lex_class.calls 5 b.toNat (cls b) w (cls_f b)

/-- Does a byte belong to one of the classes. -/
def inCls (cs : List Int) (b : UInt8) : Bool := cs.contains (cls b)

theorem drop_at {s : ByteArray} {k : Nat} (h : k < s.size) : s.data.toList.drop k = s[k] :: s.data.toList.drop (k + 1) := by
  have h' : k < s.data.toList.length := by simpa using h
  rw [List.drop_eq_getElem_cons h']
  rfl
theorem wrap_sub {a b : Nat} (h : b ≤ a) (ha : a ≤ 140737488355328) : wrap64 ((a : Int) - (b : Int)) = ((a - b : Nat) : Int) := by
  unfold wrap64; omega

set_option maxHeartbeats 4000000 in
set_option maxRecDepth 100000 in
theorem run_calls (g : Nat) (s : ByteArray) (fr : Nat) (ab ao : Nat) (cap : Nat) (cs : List Int) (w : World) (hs : w.cell? ⟨g, 0, none⟩ = some (.string s)) (hfr : fr ≤ s.size) (hsz : s.size ≤ 140737488355328)
    (hcl : cs.length ≤ 4) (hc : ∀ j (hj : j < cs.length), w.cell? ⟨ab, ao + j, none⟩ = some (.int .i64 cs[j])) :
    Calls Tryz.prog 31 #[.pointer (some ⟨g, 0, none⟩), .int .i64 fr, .slice (some ⟨ab, ao, none⟩) cs.length cap] w fun e w' =>
      e = .returned (.int .i64 ((s.data.toList.drop fr).takeWhile (inCls cs)).length) ∧ Drawn0 w w' := by
  go_enter Tryz.func31, Tryz.ntmps31
  go_wp2
  go_step3
  go_wp2
  go_step3
  go_wp2
  go_loopg [7] (s.size - fr) (fun gk vn wx => ∃ k : Nat, k + gk = s.size ∧ vn = .int .i64 k ∧ Aside0 (fr ≤ k ∧ ((s.data.toList.drop fr).takeWhile (inCls cs)).length = (k - fr) + ((s.data.toList.drop k).takeWhile (inCls cs)).length) ∧ ∃ m, wx = w.drewN m)
  case atStart => exact ⟨fr, by omega, rfl, ⟨Nat.le_refl _, by omega⟩, 0, rfl⟩
  case round =>
    obtain ⟨k, hk, rfl, HI, m, rfl⟩ := hrel
    cases gk with
    | zero =>
      have hlen : ((s.data.toList.drop fr).takeWhile (inCls cs)).length = k - fr := by
        have := HI.out.2
        rw [show s.data.toList.drop k = [] from List.drop_eq_nil_of_le (by simp; omega)] at this
        simpa using this
      have hw : (k : Int) - (fr : Int) = ((k - fr : Nat) : Int) := by have := HI.out.1; omega
      go_wp2
      try rw [Exit.noGoto_ret]
      go_ret
      exact ⟨by rw [hlen, ← hw]; rfl, ⟨m, rfl⟩⟩
    | succ gk =>
      have hlt : k < s.size := by omega
      have hd := drop_at hlt
      have HB : ∀ w0, Aside0 (Calls Tryz.prog 27 #[.int .u8 s[k].toNat] w0 fun e w' => e = .returned (.int .i64 (cls s[k])) ∧ Drawn0 w0 w') := fun w0 => ⟨cls_calls s[k] w0⟩
      go_wp2_with (go_at_call 27; refine (HB _).out.mono ?_; rintro e w' ⟨rfl, ⟨n, rfl⟩⟩)
      go_loopg [7, 28] cs.length (fun g2 vn vj wx => ∃ j : Nat, vn = .int .i64 k ∧ j + g2 = cs.length ∧ vj = .int .i64 j ∧ Aside0 (∀ i (hi : i < cs.length), i < j → cs[i] ≠ cls s[k]) ∧ ∃ m, wx = w.drewN m)
      case atStart => exact ⟨0, rfl, by omega, rfl, ⟨fun i hi h0 => by omega⟩, m + n, rfl⟩
      case round =>
        obtain ⟨j, rfl, hj, rfl, HJ, m2, rfl⟩ := hrel
        cases gk with
        | zero =>
          have hno : inCls cs s[k] = false := by
            unfold inCls
            rw [← Bool.not_eq_true, List.contains_iff_mem]
            intro h
            obtain ⟨i, hi, e⟩ := List.getElem_of_mem h
            exact HJ.out i hi (by omega) e
          have hlen : ((s.data.toList.drop fr).takeWhile (inCls cs)).length = k - fr := by
            have := HI.out.2
            rw [hd, List.takeWhile_cons, hno] at this
            simpa using this
          have hw : (k : Int) - (fr : Int) = ((k - fr : Nat) : Int) := by have := HI.out.1; omega
          go_wp2
          try rw [Exit.noGoto_ret]
          go_ret
          exact ⟨by rw [hlen, ← hw]; rfl, ⟨m2, rfl⟩⟩
        | succ g2 =>
          have hjl : j < cs.length := by omega
          have hcell : (w.drewN m2).cell? ⟨ab, ao + j, none⟩ = some (.int .i64 cs[j]) := hc j hjl
          by_cases he : cs[j] = cls s[k]
          · have hyes : inCls cs s[k] = true := by
              unfold inCls
              rw [List.contains_iff_mem, ← he]
              exact List.getElem_mem hjl
            have he1 : (cls s[k] == cs[j]) = true := beq_iff_eq.mpr he.symm
            have hnext : ((s.data.toList.drop fr).takeWhile (inCls cs)).length = (k + 1 - fr) + ((s.data.toList.drop (k + 1)).takeWhile (inCls cs)).length := by
              have h0 := HI.out.2
              have h1 := HI.out.1
              rw [hd, List.takeWhile_cons, hyes] at h0
              simp at h0
              omega
            go_wp2
            go_roundg gk
            case measure => omega
            case rel => exact ⟨k + 1, by omega, by first | rfl | simp, ⟨by have := HI.out.1; omega, hnext⟩, m2, rfl⟩
          · have he1 : (cls s[k] == cs[j]) = false := beq_eq_false_iff_ne.mpr (Ne.symm he)
            go_wp2
            go_roundg g2
            case measure => omega
            case rel => exact ⟨j + 1, rfl, by omega, by first | rfl | simp, ⟨fun i hi h0 => by
              rcases Nat.lt_or_ge i j with h | h
              · exact HJ.out i hi h
              · obtain rfl : i = j := by omega
                exact he⟩, m2, rfl⟩
end Go.Proofs.YtaibkpbiccibjaaGreatDoor.PAll
