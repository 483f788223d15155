/- strings.Cut at a separator of one byte, for every text. -/
import Derived.Test.YtafdoogghalpjaaGreatDoorVStub
import Derived.Lib.IndexMore
import Derived.Lib.IndexBytes
import Derived.Shelf.Strings.Cut
set_option linter.unusedVariables false
namespace Go.Proofs.YtafdoogghalpjaaGreatDoor.Cut
open Go.RowKit Go.Proofs.YtafdoogghalpjaaGreatDoorW.PrintWords Go.Proofs.YtafdoogghalpjaaGreatDoorW.PrintLast

theorem take_bytes (s : ByteArray) (i : Nat) : s.extract 0 i = ⟨(s.data.toList.take i).toArray⟩ := by
  apply ByteArray.ext
  rw [ByteArray.data_extract]
  apply Array.toList_inj.mp
  simp
theorem drop_bytes (s : ByteArray) (i : Nat) : s.extract i s.size = ⟨(s.data.toList.drop i).toArray⟩ := by
  apply ByteArray.ext
  rw [ByteArray.data_extract]
  apply Array.toList_inj.mp
  simp
  apply List.take_of_length_le
  simp

theorem cut_miss {l : List UInt8} {c : UInt8} (h : Lib.indexByte l c = -1) : Lib.cut l [c] = (l, [], false) := by
  unfold Lib.cut; rw [Lib.index_one, h]; simp
theorem cut_hit {l : List UInt8} {c : UInt8} {i : Nat} (h : Lib.indexByte l c = i) : Lib.cut l [c] = (l.take i, l.drop (i + 1), true) := by
  unfold Lib.cut; rw [Lib.index_one, h]; simp

set_option maxHeartbeats 2000000 in
set_option maxRecDepth 100000 in
theorem inner (s : ByteArray) (c : UInt8) (w : World) (hs : s.size ≤ 140737488355328) :
    Calls Tryz.prog 112 #[.string s, .string ⟨#[c]⟩] w fun e w' => e = .returned (.tuple #[.string ⟨(Lib.cut s.data.toList [c]).1.toArray⟩, .string ⟨(Lib.cut s.data.toList [c]).2.1.toArray⟩, .bool (Lib.cut s.data.toList [c]).2.2]) ∧ ∃ n, w' = w.drewN n := by
  have hge := Lib.indexByte_ge s.data.toList c
  rcases (by omega : Lib.indexByte s.data.toList c = -1 ∨ 0 ≤ Lib.indexByte s.data.toList c) with hix | h0
  · rw [cut_miss hix]
    go_enter Tryz.func112, Tryz.ntmps112
    go_wp2_with (go_at_call 129; refine (Tryz.stringslite_Index_one s c _).mono ?_; rintro e w' ⟨rfl, rfl⟩; rw [hix])
    go_ret3
    exact ⟨rfl, 0, rfl⟩
  · obtain ⟨i, hix⟩ := Int.eq_ofNat_of_zero_le h0
    have hlt : i < s.size := by
      have := (Lib.indexByte_some hix).1
      have h2 := (List.getElem?_eq_some_iff.1 this).1
      simpa using h2
    rw [cut_hit hix]
    have c1 : (0 : Int) ≤ ↑i := by omega
    have c2 : (↑i : Int) ≤ ↑s.size := by omega
    have c3 : (0 : Int) ≤ ↑i + 1 := by omega
    have c4 : (↑i + 1 : Int) ≤ ↑s.size := by omega
    have mixed : Tryz.prog.follows .mixedOrders = true := by kernel_rfl
    have hn : (↑i + 1 : Int).toNat = i + 1 := by omega
    have hwr : IntKind.i64.wrap (↑i + 1) = ↑i + 1 := by rw [IntKind.wrap_i64]; omega
    go_enter Tryz.func112, Tryz.ntmps112
    go_wp2_with (go_at_call 129; refine (Tryz.stringslite_Index_one s c _).mono ?_; rintro e w' ⟨rfl, rfl⟩; rw [hix])
    go_region_o
    go_wp2
    go_ret3
    exact ⟨by simp [take_bytes, drop_bytes], 1, rfl⟩

set_option maxHeartbeats 2000000 in
set_option maxRecDepth 100000 in
theorem cut (s : ByteArray) (c : UInt8) (w : World) (hs : s.size ≤ 140737488355328) :
    Calls Tryz.prog 86 #[.string s, .string ⟨#[c]⟩] w fun e w' => e = .returned (.tuple #[.string ⟨(Lib.cut s.data.toList [c]).1.toArray⟩, .string ⟨(Lib.cut s.data.toList [c]).2.1.toArray⟩, .bool (Lib.cut s.data.toList [c]).2.2]) ∧ ∃ n, w' = w.drewN n := by
  have H := Aside0.mk (inner s c w hs)
  generalize hb : Lib.cut s.data.toList [c] = x at *
  go_enter Tryz.func86, Tryz.ntmps86
  go_wp2_with (go_at_call 112; refine H.out.mono ?_; rintro e w' ⟨rfl, n, rfl⟩)
  go_ret3
  exact ⟨rfl, n, rfl⟩
end Go.Proofs.YtafdoogghalpjaaGreatDoor.Cut
