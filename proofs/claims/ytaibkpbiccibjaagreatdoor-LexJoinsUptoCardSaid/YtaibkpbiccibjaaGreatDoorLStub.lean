/- The library's functions that layer 2 calls, each as a Lean function with its contract (off the shelf), and what of the package-level variables they need. -/
import Derived.Test.YtaibkpbiccibjaaGreatDoorLK
import Derived.Test.YtaibkpbiccibjaaGreatDoorLFc
import Derived.Test.YtaibkpbiccibjaaGreatDoorShelf
import Derived.Lib.Tables
import Derived.Lib.Space
set_option linter.unusedVariables false
namespace Go.Proofs.YtaibkpbiccibjaaGreatDoor.PAll
open Go.RowKit Go.Proofs.YtaibkpbiccibjaaGreatDoorW.PrintWords Go.Proofs.YtaibkpbiccibjaaGreatDoorW.PrintLast Go.Proofs.YtaibkpbiccibjaaGreatDoorW.PrintMore

/-- What the walks need of the package-level variables: strings' table of blanks, and strconv.ErrRange, which is an error. -/
structure LaidL (w : World) : Prop where
  tab : ∀ c : Nat, c < 256 → w.cell? ⟨0, c, none⟩ = some (.int .u8 (if c = 9 ∨ c = 10 ∨ c = 11 ∨ c = 12 ∨ c = 13 ∨ c = 32 then 1 else 0))
  range : ∃ te pe, w.cell? ⟨8, 0, none⟩ = some (.iface te pe)

theorem cell_below {w0 w : World} (hb : Below w0.heap.size w0 w) {p : Addr} {v : Value} (h : w0.cell? p = some v) : w.cell? p = some v := by
  rw [hb.cell]
  · exact h
  · cases hh : w0.heap[p.block]? with
    | none => simp [World.cell?, hh] at h
    | some o => exact (Array.getElem?_eq_some_iff.1 hh).1

theorem LaidL.below {w0 w : World} (h : Aside0 (LaidL w0)) (hb : Below w0.heap.size w0 w) : LaidL w := by
  obtain ⟨ht, te, pe, he⟩ := h.out
  exact ⟨fun c hc => cell_below hb (ht c hc), te, pe, cell_below hb he⟩

def ascii (s : ByteArray) : Bool := s.data.toList.all fun b => b.toNat < 128
theorem ascii_at {s : ByteArray} (h : ascii s = true) (j : Nat) (b : UInt8) (hb : s.data.toList[j]? = some b) : b.toNat < 128 := by
  unfold ascii at h
  rw [List.all_eq_true] at h
  simpa using h b (List.mem_of_getElem? hb)
/-! ### strings_ToUpper: function 27 -/
def strings_ToUpper.f (a0 : ByteArray) : Option (ByteArray) := if a0.size ≤ 140737488355328 ∧ ascii a0 = true then some ⟨(Lib.toUpperA a0.data.toList).toArray⟩ else none
theorem strings_ToUpper.calls (a0 : ByteArray) (r : ByteArray) (w : World) (h : strings_ToUpper.f a0 = some r) :
    Calls Tryz.prog 35 #[.string a0] w fun e w' => e = .returned (.string r) ∧ Below w.heap.size w w' := by
  unfold strings_ToUpper.f at h
  split at h
  · rename_i hc
    obtain rfl := Option.some.inj h
    exact Tryz.strings_ToUpper_ascii a0 w hc.1 (ascii_at hc.2)
  · cases h
/-! ### strings_ToLower: function 26 -/
def strings_ToLower.f (a0 : ByteArray) : Option (ByteArray) := if a0.size ≤ 140737488355328 ∧ ascii a0 = true then some ⟨(Lib.toLowerA a0.data.toList).toArray⟩ else none
theorem strings_ToLower.calls (a0 : ByteArray) (r : ByteArray) (w : World) (h : strings_ToLower.f a0 = some r) :
    Calls Tryz.prog 37 #[.string a0] w fun e w' => e = .returned (.string r) ∧ Below w.heap.size w w' := by
  unfold strings_ToLower.f at h
  split at h
  · rename_i hc
    obtain rfl := Option.some.inj h
    exact Tryz.strings_ToLower_ascii a0 w hc.1 (ascii_at hc.2)
  · cases h
end Go.Proofs.YtaibkpbiccibjaaGreatDoor.PAll
