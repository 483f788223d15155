import Derived.Test.YthgfdnffnbclpaaDoorQV03
import Derived.Lib.ConvBytes
import Derived.Laws.IdiomStrings
import Derived.Test.YthgfdnffnbclpaaDoorQV04
set_option linter.unusedVariables false
set_option linter.unusedSimpArgs false
namespace Go.Proofs.YthgfdnffnbclpaaDoor.PAll
open Go.RowKit Go.Proofs.YthgfdnffnbclpaaDoorW.PrintWords Go.Proofs.YthgfdnffnbclpaaDoorW.PrintLast Go.Proofs.YthgfdnffnbclpaaDoorW.PrintMore

def foldB (up : Bool) (b : UInt8) : UInt8 := if up = true then Lx.up b else Lx.low b
def jointerref02_folded.f (a0 : ByteArray) (a1 : Bool) : Option (ByteArray) := if a0.size ≤ 140737488355328 then some ⟨(a0.data.toList.map (foldB a1)).toArray⟩ else none

theorem sget {s : ByteArray} {k : Nat} (h : k < s.size) : s.data.toList[k]? = some s[k] := by
  have h' : k < s.data.toList.length := by simpa using h
  rw [List.getElem?_eq_getElem h']; rfl

set_option maxHeartbeats 8000000 in
set_option maxRecDepth 100000 in
theorem jointerref02_folded.calls (a0 : ByteArray) (a1 : Bool) (r : ByteArray) (w : World) (h : jointerref02_folded.f a0 a1 = some r) :
    Calls Tryd.prog 63 #[.string a0, .bool a1] w fun e w' => e = .returned (.string r) ∧ Below w.heap.size w w' := by
  unfold jointerref02_folded.f at h
  split at h
  case isFalse => cases h
  rename_i hs
  obtain rfl := Option.some.inj h
  clear h
  have hcv := Lib.run_convert_string_bytes (P := Tryd.prog) w 9 111 5 a0 Tryd.underlying9 Tryd.underlying111 Tryd.underlying5
  have hB : ∀ (j : Nat) (hj : j < a0.size), (Lib.bytesWorld w 5 a0).cell? ⟨w.heap.size, j, none⟩ = some (.int .u8 (if j < 0 then foldB a1 a0[j] else a0[j]).toNat) := by
    intro j hj
    rw [Lib.bytesWorld_cell w 5 a0 j hj, if_neg (by omega)]
    have := sget hj
    simp [List.getD, this]
  have hF : ∀ (j : Nat) (hj : j < a0.size), (Lib.bytesWorld w 5 a0).frozen? ⟨w.heap.size, j, none⟩ = false := by
    intro j hj
    have hz : a0.size ≤ (Lib.bytesCells w 5 a0).size := by simp [Lib.bytesCells]
    unfold World.frozen?
    rw [Lib.bytesWorld_at_new]
    simp
    omega
  have hbel : Below w.heap.size w (Lib.bytesWorld w 5 a0) := bytes_below (Below.refl _ _) (Nat.le_refl _) 5 a0
  generalize Lib.bytesWorld w 5 a0 = W1 at *
  generalize grownCap w a0.size 0 5 = cp at *
  have HB := Aside0.mk hB
  have HF := Aside0.mk hF
  have HBL := Aside0.mk hbel
  clear hB hF hbel
  go_enter Tryd.func63, Tryd.ntmps63
  go_wp2
  go_loopg [6] a0.size (fun gk v6 wx => ∃ k : Nat, k + gk = a0.size ∧ v6 = .int .i64 k ∧ Aside0 (∀ (j : Nat) (hj : j < a0.size), wx.cell? ⟨w.heap.size, j, none⟩ = some (.int .u8 (if j < k then foldB a1 a0[j] else a0[j]).toNat)) ∧ Aside0 (∀ (j : Nat) (hj : j < a0.size), wx.frozen? ⟨w.heap.size, j, none⟩ = false) ∧ Aside0 (Below w.heap.size w wx))
  case atStart => exact ⟨0, by omega, rfl, HB, HF, HBL⟩
  case round =>
    clear HB HF HBL hcv
    obtain ⟨k, hk, rfl, HC, HF, HBL⟩ := hrel
    cases gk with
    | zero =>
      have hcb := run_convert_bytes_back (P := Tryd.prog) wr 111 9 5 ⟨w.heap.size, 0, none⟩ cp (a0.data.toList.map (foldB a1)) Tryd.underlying111 Tryd.underlying5 Tryd.underlying9 (fun j hj => by
        have hj' : j < a0.size := by simpa using hj
        have := HC.out j hj'
        rw [if_pos (by omega)] at this
        have e := sget hj'
        have e2 : (a0.data.toList.map (foldB a1))[j] = foldB a1 a0[j] := by
          rw [List.getElem_map]
          congr 1
        rw [e2, show (⟨w.heap.size, 0, none⟩ : Addr).add j = ⟨w.heap.size, j, none⟩ from by by_cases h : j = 0 <;> simp [Addr.add, h]]
        exact this)
      rw [show (a0.data.toList.map (foldB a1)).length = a0.size by simp] at hcb
      generalize hRB : (⟨(a0.data.toList.map (foldB a1)).toArray⟩ : ByteArray) = RB at *
      go_wp2
      go_ret
      exact ⟨by rw [hRB]; rfl, HBL.out⟩
    | succ gk =>
      have hlt : k < a0.size := by omega
      have hc := HC.out k hlt
      rw [if_neg (by omega)] at hc
      have hf := HF.out k hlt
      have hki : (k : Int) < (a0.size : Int) := by omega
      have hki0 : (0 : Int) ≤ (k : Int) := by omega
      have hst : ∀ (u : UInt8), foldB a1 a0[k] = u → Aside0 (∀ (j : Nat) (hj : j < a0.size), (wr.setCell ⟨w.heap.size, k, none⟩ (.int .u8 u.toNat)).cell? ⟨w.heap.size, j, none⟩ = some (.int .u8 (if j < k + 1 then foldB a1 a0[j] else a0[j]).toNat)) := by
        intro u hu
        refine ⟨fun j hj => ?_⟩
        by_cases hjk : j = k
        · subst hjk
          rw [if_pos (by omega), World.cell?_setCell_same' wr _ _ (by rw [hc]; rfl), hu]
        · have hne : (⟨w.heap.size, k, none⟩ : Addr) ≠ ⟨w.heap.size, j, none⟩ := fun e => hjk (by injection e with _ e2; exact e2.symm)
          rw [show (wr.setCell ⟨w.heap.size, k, none⟩ (.int .u8 u.toNat)).cell? ⟨w.heap.size, j, none⟩ = wr.cell? ⟨w.heap.size, j, none⟩ from World.cell?_setCell_other _ _ _ _ hne, HC.out j hj]
          by_cases h1 : j < k
          · rw [if_pos h1, if_pos (by omega)]
          · rw [if_neg h1, if_neg (by omega)]
      have hno : foldB a1 a0[k] = a0[k] → Aside0 (∀ (j : Nat) (hj : j < a0.size), wr.cell? ⟨w.heap.size, j, none⟩ = some (.int .u8 (if j < k + 1 then foldB a1 a0[j] else a0[j]).toNat)) := by
        intro hu
        refine ⟨fun j hj => ?_⟩
        rw [HC.out j hj]
        by_cases h1 : j < k
        · rw [if_pos h1, if_pos (by omega)]
        · rw [if_neg h1]
          by_cases hjk : j = k
          · subst hjk; rw [if_pos (by omega), hu]
          · rw [if_neg (by omega)]
      have hfs : ∀ v, Aside0 (∀ (j : Nat) (hj : j < a0.size), (wr.setCell ⟨w.heap.size, k, none⟩ v).frozen? ⟨w.heap.size, j, none⟩ = false) := fun v => ⟨fun j hj => by rw [World.frozen?_setCell]; exact HF.out j hj⟩
      have hbs : ∀ v, Aside0 (Below w.heap.size w (wr.setCell ⟨w.heap.size, k, none⟩ v)) := fun v => ⟨below_set HBL.out (Nat.le_refl _)⟩
      generalize a0[k] = b at *
      have hb256 := b.toNat_lt
      cases a1 with
      | true =>
        by_cases h1 : 97 ≤ b.toNat
        · by_cases h2 : b.toNat ≤ 122
          · have hu : foldB true b = b - 32 := by simp [foldB, Lx.up, h1, h2]
            have hsub : (b - 32).toNat = b.toNat - 32 := by rw [UInt8.toNat_sub_of_le b 32 (by show (32 : UInt8).toNat ≤ b.toNat; simp; omega)]; rfl
            have H1 := hst (b - 32) hu
            have hw : IntKind.u8.wrap ((b.toNat : Int) - 32) = (((b - 32).toNat : Nat) : Int) := by rw [IntKind.wrap_u8, hsub]; omega
            have i1 : (97 : Int) ≤ (b.toNat : Int) := by omega
            have i2 : (b.toNat : Int) ≤ 122 := by omega
            clear hst hno HC hu hsub
            generalize (b - 32).toNat = bn at *
            go_wp2
            go_roundg gk
            case measure => omega
            case rel => exact ⟨k + 1, by omega, by first | rfl | simp, H1, hfs _, hbs _⟩
          · have H1 := hno (by simp [foldB, Lx.up, h2])
            have i1 : (97 : Int) ≤ (b.toNat : Int) := by omega
            have i2 : ¬ (b.toNat : Int) ≤ 122 := by omega
            clear hst hno HC
            go_wp2
            go_roundg gk
            case measure => omega
            case rel => exact ⟨k + 1, by omega, by first | rfl | simp, H1, HF, HBL⟩
        · have H1 := hno (by simp [foldB, Lx.up, h1])
          have i1 : ¬ (97 : Int) ≤ (b.toNat : Int) := by omega
          clear hst hno HC
          go_wp2
          go_roundg gk
          case measure => omega
          case rel => exact ⟨k + 1, by omega, by first | rfl | simp, H1, HF, HBL⟩
      | false =>
        by_cases h1 : 65 ≤ b.toNat
        · by_cases h2 : b.toNat ≤ 90
          · have hu : foldB false b = b + 32 := by simp [foldB, Lx.low, h1, h2]
            have hsub : (b + 32).toNat = b.toNat + 32 := by rw [UInt8.toNat_add]; show (b.toNat + 32) % 256 = _; omega
            have H1 := hst (b + 32) hu
            have hw : IntKind.u8.wrap ((b.toNat : Int) + 32) = (((b + 32).toNat : Nat) : Int) := by rw [IntKind.wrap_u8, hsub]; omega
            have i1 : (65 : Int) ≤ (b.toNat : Int) := by omega
            have i2 : (b.toNat : Int) ≤ 90 := by omega
            clear hst hno HC hu hsub
            generalize (b + 32).toNat = bn at *
            go_wp2
            go_roundg gk
            case measure => omega
            case rel => exact ⟨k + 1, by omega, by first | rfl | simp, H1, hfs _, hbs _⟩
          · have H1 := hno (by simp [foldB, Lx.low, h2])
            have i1 : (65 : Int) ≤ (b.toNat : Int) := by omega
            have i2 : ¬ (b.toNat : Int) ≤ 90 := by omega
            clear hst hno HC
            go_wp2
            go_roundg gk
            case measure => omega
            case rel => exact ⟨k + 1, by omega, by first | rfl | simp, H1, HF, HBL⟩
        · have H1 := hno (by simp [foldB, Lx.low, h1])
          have i1 : ¬ (65 : Int) ≤ (b.toNat : Int) := by omega
          clear hst hno HC
          go_wp2
          go_roundg gk
          case measure => omega
          case rel => exact ⟨k + 1, by omega, by first | rfl | simp, H1, HF, HBL⟩
end Go.Proofs.YthgfdnffnbclpaaDoor.PAll

