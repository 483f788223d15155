import Derived.Test.YthgfdnffnbclpaaGreatDoorSQG01
import Derived.Test.YthgfdnffnbclpaaGreatDoorSQG02
import Derived.Test.YthgfdnffnbclpaaGreatDoorProg
import Derived.Below
import Derived.Deep.Draws
import Derived.Deep.AppendLies
import Derived.Maps.AppendAt
import Derived.OwnWalk
import Derived.Laws.BytesArg
import Derived.Laws.MakeOwn
import Derived.Laws.OwnMore
import Derived.Deep.OwnRows
import Derived.Tactics
import Derived.Lib.ConvBytes
import Derived.Laws.Slices
import Derived.WalkKit
import Derived.KernelRfl
import Derived.RowKit3
import Derived.Deep.LoopGhost
import Derived.Deep.QuietTactic
import Derived.BigQuiet
import Derived.WideLaws
import Derived.Deep.DeepCutAuto
import Derived.Deep.CutBlock
import Derived.Deep.RegionHeld3
import Derived.Laws.Rows
import Derived.Lib.AppendStr
import Derived.ArgAppend
import Derived.Laws.IdiomCopy
import Derived.OrdersHeld
import Derived.Laws.BitsLemmas
import Derived.RowKit
import Derived.Shelf.Strings.Builder1
import Derived.Shelf.Strings.Builder2
import Derived.Shelf.Strings.OnBuilder
import Derived.Shelf.Strings.BuilderF
import Derived.Lib.Tables
import Derived.Lib.Space
import Derived.Deep.MidRow
import Derived.Lib.LazyBuf
import Derived.Laws.ResultCell
import Derived.Maps.OwnSet
import Derived.DeepKeys3
set_option linter.unusedVariables false
set_option linter.unusedSimpArgs false
namespace Go.Proofs.YthgfdnffnbclpaaGreatDoorW.PrintWords
open Go.RowKit
section
variable {P : Program} {ops : Array Oper} {rest : List Oper} {o : Oper} {a : Act} {Q : Exit → Act → World → Prop} {W : World}
theorem gate_guard (hw : Region.wanted o (yielded ops a.tmps) = true) (h : wpList P ops Q ({ o with guard := none } :: rest) a W) : wpList P ops Q (o :: rest) a W := by
 have h1 : Region.wanted { o with guard := none } (yielded ops a.tmps) = true := rfl
 unfold wpList at h ⊢
 rw [if_pos h1] at h
 rw [if_pos hw]
 exact h
end
end Go.Proofs.YthgfdnffnbclpaaGreatDoorW.PrintWords
namespace Go.Proofs.YthgfdnffnbclpaaGreatDoorW.PrintWords
open Go.RowKit
namespace Kd
section
variable {α : Type} {d : Kd α} {e base n cap g : Nat} {ok ok' okp : Nat → Prop} {w w1 W : World} {v v1 : Value} {xs ys : List α}
end
section
variable {P : Program} {ops : Array Oper} {rest : List Oper} {o : Oper} {a : Act} {Q : Exit → Act → World → Prop} {Kc : Act → World → Prop} {α : Type}
end
end Kd
end Go.Proofs.YthgfdnffnbclpaaGreatDoorW.PrintWords
namespace Go.Proofs.YthgfdnffnbclpaaGreatDoorW.PrintMore
open Go.RowKit Go.Proofs.YthgfdnffnbclpaaGreatDoorW.PrintWords
namespace Kd
open Go.Proofs.YthgfdnffnbclpaaGreatDoorW.PrintWords.Kd
section
variable {α : Type} {d : Kd α} {e base g N : Nat} {ok : Nat → Prop} {W w1 : World} {u v : Value} {xs : List α}
end
end Kd
theorem max2_int (k k' : IntKind) (x y : Int) : Builtin.max2 (.int k x) (.int k' y) = pure (.int k (if x < y then y else x)) := by simp only [Builtin.max2, gt_iff_lt]
theorem min2_int (k k' : IntKind) (x y : Int) : Builtin.min2 (.int k x) (.int k' y) = pure (.int k (if y < x then y else x)) := by simp only [Builtin.min2]
theorem max_two (ats : Array TypeId) (ty : TypeId) (a b : Value) : Builtin.max_ ats ty #[a, b] = (Builtin.max2 a b >>= fun s => pure s) := by simp only [Builtin.max_, List.foldlM_cons, List.foldlM_nil]
theorem min_two (ats : Array TypeId) (ty : TypeId) (a b : Value) : Builtin.min_ ats ty #[a, b] = (Builtin.min2 a b >>= fun s => pure s) := by simp only [Builtin.min_, List.foldlM_cons, List.foldlM_nil]
theorem max_three (ats : Array TypeId) (ty : TypeId) (a b c : Value) : Builtin.max_ ats ty #[a, b, c] = (Builtin.max2 a b >>= fun s => Builtin.max2 s c >>= fun s => pure s) := by simp only [Builtin.max_, List.foldlM_cons, List.foldlM_nil]
theorem min_three (ats : Array TypeId) (ty : TypeId) (a b c : Value) : Builtin.min_ ats ty #[a, b, c] = (Builtin.min2 a b >>= fun s => Builtin.min2 s c >>= fun s => pure s) := by simp only [Builtin.min_, List.foldlM_cons, List.foldlM_nil]
theorem max_four (ats : Array TypeId) (ty : TypeId) (a b c d : Value) : Builtin.max_ ats ty #[a, b, c, d] = (Builtin.max2 a b >>= fun s => Builtin.max2 s c >>= fun s => Builtin.max2 s d >>= fun s => pure s) := by simp only [Builtin.max_, List.foldlM_cons, List.foldlM_nil]
theorem min_four (ats : Array TypeId) (ty : TypeId) (a b c d : Value) : Builtin.min_ ats ty #[a, b, c, d] = (Builtin.min2 a b >>= fun s => Builtin.min2 s c >>= fun s => Builtin.min2 s d >>= fun s => pure s) := by simp only [Builtin.min_, List.foldlM_cons, List.foldlM_nil]
end Go.Proofs.YthgfdnffnbclpaaGreatDoorW.PrintMore
namespace Go.Proofs.YthgfdnffnbclpaaGreatDoorW.PrintWords
open Go.RowKit
section
variable {P : Program} {ops : Array Oper} {rest : List Oper} {o : Oper} {a : Act} {Q : Exit → Act → World → Prop} {W : World}
theorem gate_callee {f : FuncId} {as_ : Array Operand} {ts : Array TypeId} (_ho : o.op = .call { callee := .value (.func f), args := as_, argTypes := ts }) (h : wpList P ops Q (o :: rest) a W) : wpList P ops Q (o :: rest) a W := h
theorem gate_builtin {b : Builtin} {xs : Array Operand} {ts : Array TypeId} (_ho : o.op = .call { callee := .builtin b, args := xs, argTypes := ts }) (h : wpList P ops Q (o :: rest) a W) : wpList P ops Q (o :: rest) a W := h
end
def mn (a b : Int) : Int := if b < a then b else a
namespace Kd
section
variable {α : Type} {d : Kd α} {e base : Nat} {ok : Nat → Prop} {W w1 : World} {v : Value} {xs : List α}
end
section
variable {α : Type} {d : Kd α} {e base g n cap : Nat} {ok oki okp : Nat → Prop} {W : World} {xs : List α} {i : Int} {c : List Value}
theorem S_seg0 (hH : H d e W base ok (.slice (some ⟨g, 0, none⟩) n cap) xs i oki c) (h0 : 0 ≤ i) (h1 : i < n) {seg : List Value} {j : Nat} (hj : j + seg.length ≤ d.sz)
  {x' : α} (hM : d.M W base okp x' (c.take j ++ seg ++ c.drop (j + seg.length))) (hokp : ∀ k, okp k → oki k) :
  S d e (W.setCells g (i.toNat * d.sz + j) seg) base ok (.slice (some ⟨g, 0, none⟩) n cap) (xs.set i.toNat x') ∧ W.grownBy (W.setCells g (i.toNat * d.sz + j) seg) (some g) :=
 S_seg (okg := fun _ => False) (H_mono hH (fun _ hk => ⟨hk, fun h => h⟩)) h0 h1 hj hM (fun k hk => .inl (hokp k hk)) (fun _ hk => hk.elim)
end
section
variable {α : Type} {d : Kd α} {e base b b' g N : Nat} {ok ok1 : Nat → Prop} {W W2 w1 : World} {u v : Value} {xs ys : List α} {S : Nat → Prop}
end
end Kd
end Go.Proofs.YthgfdnffnbclpaaGreatDoorW.PrintWords
namespace Go.Proofs.YthgfdnffnbclpaaGreatDoorW.PrintWords
open Go.RowKit
namespace Kd
def V {α : Type} (d : Kd α) (_e : Nat) (W : World) (_base : Nat) (ok : Nat → Prop) (v : Value) (xs : List α) : Prop := ∃ A c, v = .slice A xs.length c ∧ xs.length ≤ c ∧ F d W ok A xs.length xs
section
variable {α β : Type} {d : Kd α} {e base base' n m c g N' lo hi : Nat} {ok ok' S : Nat → Prop} {w W w1 : World} {A : Option Addr} {ad : Addr} {u v v1 : Value} {xs : List α}
theorem V_nil (d : Kd α) (e : Nat) (W : World) (base : Nat) (ok : Nat → Prop) : V d e W base ok (.slice none 0 0) [] := ⟨none, 0, rfl, Nat.le_refl _, F_nil d W ok⟩
end
end Kd
end Go.Proofs.YthgfdnffnbclpaaGreatDoorW.PrintWords
namespace Go.Proofs.YthgfdnffnbclpaaGreatDoor.PAll
open Go.RowKit Go.Proofs.YthgfdnffnbclpaaGreatDoorW.PrintWords Go.Proofs.YthgfdnffnbclpaaGreatDoorW.PrintLast Go.Proofs.YthgfdnffnbclpaaGreatDoorW.PrintMore
attribute [local go_sem] max2_int min2_int max_two min_two max_three min_three max_four min_four
def errW : Option Int → Value
 | none => .nilIface
 | some c => .iface 0 (.int .i64 c)
theorem errW_none : errW none = .nilIface := rfl
theorem errW_some (c : Int) : errW (some c) = .iface 0 (.int .i64 c) := rfl
theorem info3 : (Tryz.prog.info? 3).map (fun i => (i.zero, i.size, i.bytes)) = some (some (.int .i64 0), 1, 8) := by kernel_rfl
theorem info9 : (Tryz.prog.info? 9).map (fun i => (i.zero, i.size, i.bytes)) = some (some (.string ⟨#[]⟩), 1, 16) := by kernel_rfl
theorem info41 : (Tryz.prog.info? 41).map (fun i => (i.zero, i.size, i.bytes)) = some (some (.slice none 0 0), 1, 24) := by kernel_rfl
theorem info70 : (Tryz.prog.info? 70).map (fun i => (i.zero, i.size, i.bytes)) = some (some (.slice none 0 0), 1, 24) := by kernel_rfl
theorem info72 : (Tryz.prog.info? 72).map (fun i => (i.zero, i.size, i.bytes)) = some (some (.agg #[(.string ⟨#[]⟩), (.slice none 0 0), (.slice none 0 0), (.slice none 0 0), (.slice none 0 0)]), 5, 112) := by kernel_rfl
theorem info89 : (Tryz.prog.info? 89).map (fun i => (i.zero, i.size, i.bytes)) = some (some (.slice none 0 0), 1, 24) := by kernel_rfl
theorem info87 : (Tryz.prog.info? 87).map (fun i => (i.zero, i.size, i.bytes)) = some (some (.agg #[(.int .u8 0), (.int .i64 0), (.string ⟨#[]⟩)]), 3, 32) := by kernel_rfl
theorem info75 : (Tryz.prog.info? 75).map (fun i => (i.zero, i.size, i.bytes)) = some (some (.agg #[(.slice none 0 0), (.int .i64 0), (.int .i64 0)]), 3, 40) := by kernel_rfl
theorem info83 : (Tryz.prog.info? 83).map (fun i => (i.zero, i.size, i.bytes)) = some (some (.agg #[(.string ⟨#[]⟩), (.int .u8 0), (.bool false), (.int .i64 0), (.int .i64 0)]), 5, 40) := by kernel_rfl
structure S78 where
 f0 : ByteArray
 f1 : Int
 f2 : Bool
 f3 : Int
 f4 : Int
def z78 : S78 := ⟨(⟨#[]⟩ : ByteArray), (0 : Int), false, (0 : Int), (0 : Int)⟩
def k78 : Kd S78 := Kd.iso (Kd.pair Kd.string (Kd.pair (Kd.int .u8) (Kd.pair Kd.bool (Kd.pair (Kd.int .i64) (Kd.int .i64))))) (fun x : S78 => (x.f0, x.f1, x.f2, x.f3, x.f4))
theorem k78_open {w : World} {x : S78} {cs : List Value} (h : k78.K w x cs) : cs = [.string x.f0, .int .u8 x.f1, .bool x.f2, .int .i64 x.f3, .int .i64 x.f4] := by
 obtain ⟨_, _, rfl, rfl, ⟨_, _, rfl, rfl, ⟨_, _, rfl, rfl, ⟨_, _, rfl, rfl, rfl⟩⟩⟩⟩ := h
 exact rfl
theorem k78_mk (w : World) (x : S78)  : k78.K w x [.string x.f0, .int .u8 x.f1, .bool x.f2, .int .i64 x.f3, .int .i64 x.f4] := ⟨[.string x.f0], [.int .u8 x.f1, .bool x.f2, .int .i64 x.f3, .int .i64 x.f4], rfl, rfl, ⟨[.int .u8 x.f1], [.bool x.f2, .int .i64 x.f3, .int .i64 x.f4], rfl, rfl, ⟨[.bool x.f2], [.int .i64 x.f3, .int .i64 x.f4], rfl, rfl, ⟨[.int .i64 x.f3], [.int .i64 x.f4], rfl, rfl, rfl⟩⟩⟩⟩
theorem k78_mkM (w : World) (base : Nat) (ok : Nat → Prop) (x : S78)  : k78.M w base ok x [.string x.f0, .int .u8 x.f1, .bool x.f2, .int .i64 x.f3, .int .i64 x.f4] := ⟨[.string x.f0], [.int .u8 x.f1, .bool x.f2, .int .i64 x.f3, .int .i64 x.f4], rfl, rfl, ⟨[.int .u8 x.f1], [.bool x.f2, .int .i64 x.f3, .int .i64 x.f4], rfl, rfl, ⟨[.bool x.f2], [.int .i64 x.f3, .int .i64 x.f4], rfl, rfl, ⟨[.int .i64 x.f3], [.int .i64 x.f4], rfl, rfl, rfl⟩⟩⟩⟩
def rd_T78 (xs : List S78) (i : Int) : S78 := xs.getD i.toNat z78
theorem at_T78 {w : World} {A : Option Addr} {n : Nat} {xs : List S78} (h : Kd.C k78 w A n xs) (i : Int) (h0 : 0 ≤ i) (h1 : i < n) : ∃ ad , A = some ad ∧ w.cell? (ad.add (i.toNat * 5)) = some (.string (rd_T78 xs i).f0) ∧ w.cell? ⟨(ad.add (i.toNat * 5)).block, (ad.add (i.toNat * 5)).off + 1, none⟩ = some (.int .u8 (rd_T78 xs i).f1) ∧ w.cell? ⟨(ad.add (i.toNat * 5)).block, (ad.add (i.toNat * 5)).off + 2, none⟩ = some (.bool (rd_T78 xs i).f2) ∧ w.cell? ⟨(ad.add (i.toNat * 5)).block, (ad.add (i.toNat * 5)).off + 3, none⟩ = some (.int .i64 (rd_T78 xs i).f3) ∧ w.cell? ⟨(ad.add (i.toNat * 5)).block, (ad.add (i.toNat * 5)).off + 4, none⟩ = some (.int .i64 (rd_T78 xs i).f4) := by
 obtain ⟨ad, c, e, _, hK, hc0⟩ := Kd.C_get h z78 i h0 h1
 have hc : ∀ j u, c[j]? = some u → w.cell? (ad.add (i.toNat * 5 + j)) = some u := hc0
 obtain rfl := k78_open hK
 exact ⟨ad, e, hc 0 _ rfl, by rw [← add_field _ _ 1 (by omega)]; exact hc 1 _ rfl, by rw [← add_field _ _ 2 (by omega)]; exact hc 2 _ rfl, by rw [← add_field _ _ 3 (by omega)]; exact hc 3 _ rfl, by rw [← add_field _ _ 4 (by omega)]; exact hc 4 _ rfl⟩
def rd_L6 (xs : List (List Int)) (i : Int) : (List Int) := xs.getD i.toNat ([] : List Int)
theorem at_L6 {w : World} {A : Option Addr} {n : Nat} {xs : List (List Int)} (h : Kd.C (Kd.slice 3 (Kd.int .i64)) w A n xs) (i : Int) (h0 : 0 ≤ i) (h1 : i < n) : ∃ ad A0 c0, A = some ad ∧ w.cell? (ad.add i.toNat) = some (.slice A0 (rd_L6 xs i).length c0) ∧ (rd_L6 xs i).length ≤ c0 ∧ (Kd.int .i64).C w A0 (rd_L6 xs i).length (rd_L6 xs i) := by
 obtain ⟨ad, c, e, _, hK, hc0⟩ := Kd.C_get h ([] : List Int) i h0 h1
 have hc : ∀ j u, c[j]? = some u → w.cell? (ad.add (i.toNat * 1 + j)) = some u := hc0
 obtain ⟨A0, c0, rfl, l0, g0⟩ := hK
 exact ⟨ad, A0, c0, e, by have hq := hc 0 _ rfl; rwa [Nat.mul_one, Nat.add_zero] at hq, l0, g0⟩
structure S75 where
 f0 : (List Int)
 f1 : Int
 f2 : Int
def z75 : S75 := ⟨([] : List Int), (0 : Int), (0 : Int)⟩
def k75 : Kd S75 := Kd.iso (Kd.pair (Kd.slice 3 (Kd.int .i64)) (Kd.pair (Kd.int .i64) (Kd.int .i64))) (fun x : S75 => (x.f0, x.f1, x.f2))
theorem k75_open {w : World} {x : S75} {cs : List Value} (h : k75.K w x cs) : ∃ A0 c0, cs = [.slice A0 x.f0.length c0, .int .i64 x.f1, .int .i64 x.f2] ∧ x.f0.length ≤ c0 ∧ (Kd.int .i64).C w A0 x.f0.length x.f0 := by
 obtain ⟨_, _, rfl, ⟨A0, c0, rfl, l0, g0⟩, ⟨_, _, rfl, rfl, rfl⟩⟩ := h
 exact ⟨A0, c0, rfl, l0, g0⟩
theorem k75_openM {w : World} {base : Nat} {ok : Nat → Prop} {x : S75} {cs : List Value} (h : k75.M w base ok x cs) : ∃ v0, cs = [v0, .int .i64 x.f1, .int .i64 x.f2] ∧ (Kd.int .i64).R 3 w base ok v0 x.f0 := by
 obtain ⟨_, _, rfl, ⟨v0, rfl, g0⟩, ⟨_, _, rfl, rfl, rfl⟩⟩ := h
 exact ⟨v0, rfl, g0⟩
theorem k75_mk (w : World) (x : S75) {A0 : Option Addr} {c0 : Nat} (l0 : x.f0.length ≤ c0) (g0 : (Kd.int .i64).C w A0 x.f0.length x.f0) : k75.K w x [.slice A0 x.f0.length c0, .int .i64 x.f1, .int .i64 x.f2] := ⟨[.slice A0 x.f0.length c0], [.int .i64 x.f1, .int .i64 x.f2], rfl, ⟨A0, c0, rfl, l0, g0⟩, ⟨[.int .i64 x.f1], [.int .i64 x.f2], rfl, rfl, rfl⟩⟩
theorem k75_mkM (w : World) (base : Nat) (ok : Nat → Prop) (x : S75) {v0 : Value} (g0 : (Kd.int .i64).R 3 w base ok v0 x.f0) : k75.M w base ok x [v0, .int .i64 x.f1, .int .i64 x.f2] := ⟨[v0], [.int .i64 x.f1, .int .i64 x.f2], rfl, ⟨v0, rfl, g0⟩, ⟨[.int .i64 x.f1], [.int .i64 x.f2], rfl, rfl, rfl⟩⟩
def rd_T75 (xs : List S75) (i : Int) : S75 := xs.getD i.toNat z75
theorem at_T75 {w : World} {A : Option Addr} {n : Nat} {xs : List S75} (h : Kd.C k75 w A n xs) (i : Int) (h0 : 0 ≤ i) (h1 : i < n) : ∃ ad A0 c0, A = some ad ∧ w.cell? (ad.add (i.toNat * 3)) = some (.slice A0 (rd_T75 xs i).f0.length c0) ∧ w.cell? ⟨(ad.add (i.toNat * 3)).block, (ad.add (i.toNat * 3)).off + 1, none⟩ = some (.int .i64 (rd_T75 xs i).f1) ∧ w.cell? ⟨(ad.add (i.toNat * 3)).block, (ad.add (i.toNat * 3)).off + 2, none⟩ = some (.int .i64 (rd_T75 xs i).f2) ∧ (rd_T75 xs i).f0.length ≤ c0 ∧ (Kd.int .i64).C w A0 (rd_T75 xs i).f0.length (rd_T75 xs i).f0 := by
 obtain ⟨ad, c, e, _, hK, hc0⟩ := Kd.C_get h z75 i h0 h1
 have hc : ∀ j u, c[j]? = some u → w.cell? (ad.add (i.toNat * 3 + j)) = some u := hc0
 obtain ⟨A0, c0, rfl, l0, g0⟩ := k75_open hK
 exact ⟨ad, A0, c0, e, hc 0 _ rfl, by rw [← add_field _ _ 1 (by omega)]; exact hc 1 _ rfl, by rw [← add_field _ _ 2 (by omega)]; exact hc 2 _ rfl, l0, g0⟩
structure S49 where
 f0 : ByteArray
 f1 : (List S78)
 f2 : (List (List Int))
 f3 : (List S75)
 f4 : (List Int)
def z49 : S49 := ⟨(⟨#[]⟩ : ByteArray), ([] : List S78), ([] : List (List Int)), ([] : List S75), ([] : List Int)⟩
def k49 : Kd S49 := Kd.iso (Kd.pair Kd.string (Kd.pair (Kd.slice 83 k78) (Kd.pair (Kd.slice 70 (Kd.slice 3 (Kd.int .i64))) (Kd.pair (Kd.slice 75 k75) (Kd.slice 3 (Kd.int .i64)))))) (fun x : S49 => (x.f0, x.f1, x.f2, x.f3, x.f4))
theorem k49_open {w : World} {x : S49} {cs : List Value} (h : k49.K w x cs) : ∃ A1 c1 A2 c2 A3 c3 A4 c4, cs = [.string x.f0, .slice A1 x.f1.length c1, .slice A2 x.f2.length c2, .slice A3 x.f3.length c3, .slice A4 x.f4.length c4] ∧ x.f1.length ≤ c1 ∧ k78.C w A1 x.f1.length x.f1 ∧ x.f2.length ≤ c2 ∧ (Kd.slice 3 (Kd.int .i64)).C w A2 x.f2.length x.f2 ∧ x.f3.length ≤ c3 ∧ k75.C w A3 x.f3.length x.f3 ∧ x.f4.length ≤ c4 ∧ (Kd.int .i64).C w A4 x.f4.length x.f4 := by
 obtain ⟨_, _, rfl, rfl, ⟨_, _, rfl, ⟨A1, c1, rfl, l1, g1⟩, ⟨_, _, rfl, ⟨A2, c2, rfl, l2, g2⟩, ⟨_, _, rfl, ⟨A3, c3, rfl, l3, g3⟩, ⟨A4, c4, rfl, l4, g4⟩⟩⟩⟩⟩ := h
 exact ⟨A1, c1, A2, c2, A3, c3, A4, c4, rfl, l1, g1, l2, g2, l3, g3, l4, g4⟩
theorem k49_openM {w : World} {base : Nat} {ok : Nat → Prop} {x : S49} {cs : List Value} (h : k49.M w base ok x cs) : ∃ v1 v2 v3 v4, cs = [.string x.f0, v1, v2, v3, v4] ∧ k78.R 83 w base ok v1 x.f1 ∧ (Kd.slice 3 (Kd.int .i64)).R 70 w base ok v2 x.f2 ∧ k75.R 75 w base ok v3 x.f3 ∧ (Kd.int .i64).R 3 w base ok v4 x.f4 := by
 obtain ⟨_, _, rfl, rfl, ⟨_, _, rfl, ⟨v1, rfl, g1⟩, ⟨_, _, rfl, ⟨v2, rfl, g2⟩, ⟨_, _, rfl, ⟨v3, rfl, g3⟩, ⟨v4, rfl, g4⟩⟩⟩⟩⟩ := h
 exact ⟨v1, v2, v3, v4, rfl, g1, g2, g3, g4⟩
theorem k49_mk (w : World) (x : S49) {A1 : Option Addr} {c1 : Nat} (l1 : x.f1.length ≤ c1) (g1 : k78.C w A1 x.f1.length x.f1) {A2 : Option Addr} {c2 : Nat} (l2 : x.f2.length ≤ c2) (g2 : (Kd.slice 3 (Kd.int .i64)).C w A2 x.f2.length x.f2) {A3 : Option Addr} {c3 : Nat} (l3 : x.f3.length ≤ c3) (g3 : k75.C w A3 x.f3.length x.f3) {A4 : Option Addr} {c4 : Nat} (l4 : x.f4.length ≤ c4) (g4 : (Kd.int .i64).C w A4 x.f4.length x.f4) : k49.K w x [.string x.f0, .slice A1 x.f1.length c1, .slice A2 x.f2.length c2, .slice A3 x.f3.length c3, .slice A4 x.f4.length c4] := ⟨[.string x.f0], [.slice A1 x.f1.length c1, .slice A2 x.f2.length c2, .slice A3 x.f3.length c3, .slice A4 x.f4.length c4], rfl, rfl, ⟨[.slice A1 x.f1.length c1], [.slice A2 x.f2.length c2, .slice A3 x.f3.length c3, .slice A4 x.f4.length c4], rfl, ⟨A1, c1, rfl, l1, g1⟩, ⟨[.slice A2 x.f2.length c2], [.slice A3 x.f3.length c3, .slice A4 x.f4.length c4], rfl, ⟨A2, c2, rfl, l2, g2⟩, ⟨[.slice A3 x.f3.length c3], [.slice A4 x.f4.length c4], rfl, ⟨A3, c3, rfl, l3, g3⟩, ⟨A4, c4, rfl, l4, g4⟩⟩⟩⟩⟩
theorem k49_mkM (w : World) (base : Nat) (ok : Nat → Prop) (x : S49) {v1 : Value} (g1 : k78.R 83 w base ok v1 x.f1) {v2 : Value} (g2 : (Kd.slice 3 (Kd.int .i64)).R 70 w base ok v2 x.f2) {v3 : Value} (g3 : k75.R 75 w base ok v3 x.f3) {v4 : Value} (g4 : (Kd.int .i64).R 3 w base ok v4 x.f4) : k49.M w base ok x [.string x.f0, v1, v2, v3, v4] := ⟨[.string x.f0], [v1, v2, v3, v4], rfl, rfl, ⟨[v1], [v2, v3, v4], rfl, ⟨v1, rfl, g1⟩, ⟨[v2], [v3, v4], rfl, ⟨v2, rfl, g2⟩, ⟨[v3], [v4], rfl, ⟨v3, rfl, g3⟩, ⟨v4, rfl, g4⟩⟩⟩⟩⟩
def rd_T49 (xs : List S49) (i : Int) : S49 := xs.getD i.toNat z49
theorem at_T49 {w : World} {A : Option Addr} {n : Nat} {xs : List S49} (h : Kd.C k49 w A n xs) (i : Int) (h0 : 0 ≤ i) (h1 : i < n) : ∃ ad A1 c1 A2 c2 A3 c3 A4 c4, A = some ad ∧ w.cell? (ad.add (i.toNat * 5)) = some (.string (rd_T49 xs i).f0) ∧ w.cell? ⟨(ad.add (i.toNat * 5)).block, (ad.add (i.toNat * 5)).off + 1, none⟩ = some (.slice A1 (rd_T49 xs i).f1.length c1) ∧ w.cell? ⟨(ad.add (i.toNat * 5)).block, (ad.add (i.toNat * 5)).off + 2, none⟩ = some (.slice A2 (rd_T49 xs i).f2.length c2) ∧ w.cell? ⟨(ad.add (i.toNat * 5)).block, (ad.add (i.toNat * 5)).off + 3, none⟩ = some (.slice A3 (rd_T49 xs i).f3.length c3) ∧ w.cell? ⟨(ad.add (i.toNat * 5)).block, (ad.add (i.toNat * 5)).off + 4, none⟩ = some (.slice A4 (rd_T49 xs i).f4.length c4) ∧ (rd_T49 xs i).f1.length ≤ c1 ∧ k78.C w A1 (rd_T49 xs i).f1.length (rd_T49 xs i).f1 ∧ (rd_T49 xs i).f2.length ≤ c2 ∧ (Kd.slice 3 (Kd.int .i64)).C w A2 (rd_T49 xs i).f2.length (rd_T49 xs i).f2 ∧ (rd_T49 xs i).f3.length ≤ c3 ∧ k75.C w A3 (rd_T49 xs i).f3.length (rd_T49 xs i).f3 ∧ (rd_T49 xs i).f4.length ≤ c4 ∧ (Kd.int .i64).C w A4 (rd_T49 xs i).f4.length (rd_T49 xs i).f4 := by
 obtain ⟨ad, c, e, _, hK, hc0⟩ := Kd.C_get h z49 i h0 h1
 have hc : ∀ j u, c[j]? = some u → w.cell? (ad.add (i.toNat * 5 + j)) = some u := hc0
 obtain ⟨A1, c1, A2, c2, A3, c3, A4, c4, rfl, l1, g1, l2, g2, l3, g3, l4, g4⟩ := k49_open hK
 exact ⟨ad, A1, c1, A2, c2, A3, c3, A4, c4, e, hc 0 _ rfl, by rw [← add_field _ _ 1 (by omega)]; exact hc 1 _ rfl, by rw [← add_field _ _ 2 (by omega)]; exact hc 2 _ rfl, by rw [← add_field _ _ 3 (by omega)]; exact hc 3 _ rfl, by rw [← add_field _ _ 4 (by omega)]; exact hc 4 _ rfl, l1, g1, l2, g2, l3, g3, l4, g4⟩
structure S64 where
 f0 : Int
 f1 : Int
 f2 : ByteArray
def z64 : S64 := ⟨(0 : Int), (0 : Int), (⟨#[]⟩ : ByteArray)⟩
def k64 : Kd S64 := Kd.iso (Kd.pair (Kd.int .u8) (Kd.pair (Kd.int .i64) Kd.string)) (fun x : S64 => (x.f0, x.f1, x.f2))
theorem k64_open {w : World} {x : S64} {cs : List Value} (h : k64.K w x cs) : cs = [.int .u8 x.f0, .int .i64 x.f1, .string x.f2] := by
 obtain ⟨_, _, rfl, rfl, ⟨_, _, rfl, rfl, rfl⟩⟩ := h
 exact rfl
theorem k64_mk (w : World) (x : S64)  : k64.K w x [.int .u8 x.f0, .int .i64 x.f1, .string x.f2] := ⟨[.int .u8 x.f0], [.int .i64 x.f1, .string x.f2], rfl, rfl, ⟨[.int .i64 x.f1], [.string x.f2], rfl, rfl, rfl⟩⟩
theorem k64_mkM (w : World) (base : Nat) (ok : Nat → Prop) (x : S64)  : k64.M w base ok x [.int .u8 x.f0, .int .i64 x.f1, .string x.f2] := ⟨[.int .u8 x.f0], [.int .i64 x.f1, .string x.f2], rfl, rfl, ⟨[.int .i64 x.f1], [.string x.f2], rfl, rfl, rfl⟩⟩
def rd_T64 (xs : List S64) (i : Int) : S64 := xs.getD i.toNat z64
theorem at_T64 {w : World} {A : Option Addr} {n : Nat} {xs : List S64} (h : Kd.C k64 w A n xs) (i : Int) (h0 : 0 ≤ i) (h1 : i < n) : ∃ ad , A = some ad ∧ w.cell? (ad.add (i.toNat * 3)) = some (.int .u8 (rd_T64 xs i).f0) ∧ w.cell? ⟨(ad.add (i.toNat * 3)).block, (ad.add (i.toNat * 3)).off + 1, none⟩ = some (.int .i64 (rd_T64 xs i).f1) ∧ w.cell? ⟨(ad.add (i.toNat * 3)).block, (ad.add (i.toNat * 3)).off + 2, none⟩ = some (.string (rd_T64 xs i).f2) := by
 obtain ⟨ad, c, e, _, hK, hc0⟩ := Kd.C_get h z64 i h0 h1
 have hc : ∀ j u, c[j]? = some u → w.cell? (ad.add (i.toNat * 3 + j)) = some u := hc0
 obtain rfl := k64_open hK
 exact ⟨ad, e, hc 0 _ rfl, by rw [← add_field _ _ 1 (by omega)]; exact hc 1 _ rfl, by rw [← add_field _ _ 2 (by omega)]; exact hc 2 _ rfl⟩
def rd_L12 (xs : List (List S64)) (i : Int) : (List S64) := xs.getD i.toNat ([] : List S64)
theorem at_L12 {w : World} {A : Option Addr} {n : Nat} {xs : List (List S64)} (h : Kd.C (Kd.slice 87 k64) w A n xs) (i : Int) (h0 : 0 ≤ i) (h1 : i < n) : ∃ ad A0 c0, A = some ad ∧ w.cell? (ad.add i.toNat) = some (.slice A0 (rd_L12 xs i).length c0) ∧ (rd_L12 xs i).length ≤ c0 ∧ k64.C w A0 (rd_L12 xs i).length (rd_L12 xs i) := by
 obtain ⟨ad, c, e, _, hK, hc0⟩ := Kd.C_get h ([] : List S64) i h0 h1
 have hc : ∀ j u, c[j]? = some u → w.cell? (ad.add (i.toNat * 1 + j)) = some u := hc0
 obtain ⟨A0, c0, rfl, l0, g0⟩ := hK
 exact ⟨ad, A0, c0, e, by have hq := hc 0 _ rfl; rwa [Nat.mul_one, Nat.add_zero] at hq, l0, g0⟩
def rd_L13 (xs : List (List (List S64))) (i : Int) : (List (List S64)) := xs.getD i.toNat ([] : List (List S64))
theorem at_L13 {w : World} {A : Option Addr} {n : Nat} {xs : List (List (List S64))} (h : Kd.C (Kd.slice 89 (Kd.slice 87 k64)) w A n xs) (i : Int) (h0 : 0 ≤ i) (h1 : i < n) : ∃ ad A0 c0, A = some ad ∧ w.cell? (ad.add i.toNat) = some (.slice A0 (rd_L13 xs i).length c0) ∧ (rd_L13 xs i).length ≤ c0 ∧ (Kd.slice 87 k64).C w A0 (rd_L13 xs i).length (rd_L13 xs i) := by
 obtain ⟨ad, c, e, _, hK, hc0⟩ := Kd.C_get h ([] : List (List S64)) i h0 h1
 have hc : ∀ j u, c[j]? = some u → w.cell? (ad.add (i.toNat * 1 + j)) = some u := hc0
 obtain ⟨A0, c0, rfl, l0, g0⟩ := hK
 exact ⟨ad, A0, c0, e, by have hq := hc 0 _ rfl; rwa [Nat.mul_one, Nat.add_zero] at hq, l0, g0⟩
theorem eqA64 (d : Nat) (w : World) (x0 y0 : Int) (x1 y1 : Int) (x2 y2 : ByteArray) :
  (Op.equalIn (d + 2) 87 (.agg #[.int .u8 x0, .int .i64 x1, .string x2]) (.agg #[.int .u8 y0, .int .i64 y1, .string y2])).run Tryz.prog w = .ok (x0 == y0 && (x1 == y1 && (x2.toList == y2.toList))) w := by
 refine eqA_of Tryz.underlying87 (by kernel_rfl) ?_
 refine eqf_cons (by rfl) (by go_simp; rfl) (by go_simp; rfl) (by go_simp) ?_
 refine eqf_cons (by rfl) (by go_simp; rfl) (by go_simp; rfl) (by go_simp) ?_
 exact eqf_last (by rfl) (by go_simp; rfl) (by go_simp; rfl) (by go_simp)
end Go.Proofs.YthgfdnffnbclpaaGreatDoor.PAll
namespace Go.Proofs.YthgfdnffnbclpaaGreatDoor.Lx
abbrev Bs := List UInt8
def isLet (b : UInt8) : Bool := (decide (97 ≤ b.toNat) && decide (b.toNat ≤ 122)) || (decide (65 ≤ b.toNat) && decide (b.toNat ≤ 90)) || decide (b.toNat = 95)
def isDig (b : UInt8) : Bool := decide (48 ≤ b.toNat) && decide (b.toNat ≤ 57)
def isWord (b : UInt8) : Bool := isLet b || isDig b
def up (b : UInt8) : UInt8 := if 97 ≤ b.toNat ∧ b.toNat ≤ 122 then b - 32 else b
def low (b : UInt8) : UInt8 := if 65 ≤ b.toNat ∧ b.toNat ≤ 90 then b + 32 else b
inductive Tk where
 | bad (e : Int)
 | good (kind : Int) (text : Bs) (n : Nat)
inductive Tks where
 | bad (at_ : Nat) (e : Int)
 | good (l : List (Int × Bs × Nat))
def Tks.cons (x : Int × Bs × Nat) : Tks → Tks
 | .bad a e => .bad a e
 | .good l => .good (x :: l)
def isNm (kw : Bs → Bool) (s : Bs) : Bool := !s.isEmpty && decide (s.length ≤ 20) && (s.head?.map isLet).getD false && s.all (fun b => isWord b && !(decide (65 ≤ b.toNat) && decide (b.toNat ≤ 90))) && !kw (s.map up)
theorem takeWhile_all {p : UInt8 → Bool} : ∀ (t R : Bs), (∀ b ∈ t, p b = true) → (R.head?.map p).getD false = false → (t ++ R).takeWhile p = t
 | [], R, _, h => by
  cases R with
  | nil => rfl
  | cons b r => simp at h; simp [h]
 | b :: t, R, h, hR => by
  rw [List.cons_append, List.takeWhile_cons, if_pos (h b (by simp)), takeWhile_all t R (fun c hc => h c (by simp [hc])) hR]
structure KwOk (kw : Bs → Bool) : Prop where
 upper : ∀ l, kw l = true → l ≠ [] ∧ ∀ b ∈ l, 65 ≤ b.toNat ∧ b.toNat ≤ 90
end Go.Proofs.YthgfdnffnbclpaaGreatDoor.Lx
namespace Go.Proofs.YthgfdnffnbclpaaGreatDoor.PAll
open Go.RowKit Go.Proofs.YthgfdnffnbclpaaGreatDoorW.PrintWords Go.Proofs.YthgfdnffnbclpaaGreatDoorW.PrintLast Go.Proofs.YthgfdnffnbclpaaGreatDoorW.PrintMore
def kwL : List UInt8 := [32, 65, 76, 76, 32, 65, 78, 65, 76, 89, 90, 69, 32, 65, 78, 68, 32, 65, 83, 32, 65, 83, 67, 32, 65, 86, 71, 32, 66, 69, 84, 87, 69, 69, 78, 32, 66, 73, 71, 73, 78, 84, 32, 66, 79, 79, 76, 32, 66, 89, 32, 67, 65, 83, 69, 32, 67, 79, 65, 76, 69, 83, 67, 69, 32, 67, 79, 85, 78, 84, 32, 67, 82, 69, 65, 84, 69, 32, 67, 82, 79, 83, 83, 32, 68, 69, 76, 69, 84, 69, 32, 68, 69, 83, 67, 32, 68, 73, 83, 84, 73, 78, 67, 84, 32, 68, 82, 79, 80, 32, 69, 76, 83, 69, 32, 69, 78, 68, 32, 69, 88, 67, 69, 80, 84, 32, 69, 88, 73, 83, 84, 83, 32, 69, 88, 80, 76, 65, 73, 78, 32, 70, 65, 76, 83, 69, 32, 70, 79, 82, 69, 73, 71, 78, 32, 70, 82, 79, 77, 32, 70, 85, 76, 76, 32, 71, 82, 79, 85, 80, 32, 72, 65, 86, 73, 78, 71, 32, 73, 78, 32, 73, 78, 68, 69, 88, 32, 73, 78, 78, 69, 82, 32, 73, 78, 83, 69, 82, 84, 32, 73, 78, 84, 32, 73, 78, 84, 69, 82, 83, 69, 67, 84, 32, 73, 78, 84, 79, 32, 73, 83, 32, 74, 79, 73, 78, 32, 75, 69, 89, 32, 76, 69, 70, 84, 32, 76, 69, 78, 71, 84, 72, 32, 76, 73, 75, 69, 32, 76, 73, 77, 73, 84, 32, 77, 65, 88, 32, 77, 73, 78, 32, 78, 79, 84, 32, 78, 85, 76, 76, 32, 79, 70, 70, 83, 69, 84, 32, 79, 78, 32, 79, 82, 32, 79, 82, 68, 69, 82, 32, 79, 85, 84, 69, 82, 32, 82, 69, 70, 69, 82, 69, 78, 67, 69, 83, 32, 82, 73, 71, 72, 84, 32, 83, 69, 76, 69, 67, 84, 32, 83, 85, 77, 32, 84, 65, 66, 76, 69, 32, 84, 69, 88, 84, 32, 84, 72, 69, 78, 32, 84, 79, 32, 84, 82, 85, 69, 32, 85, 78, 73, 79, 78, 32, 86, 65, 76, 85, 69, 83, 32, 87, 72, 69, 78, 32, 87, 72, 69, 82, 69, 32]
def kwB : ByteArray := ⟨kwL.toArray⟩
def kwM : List UInt8 := [65, 76, 76, 32, 65, 78, 65, 76, 89, 90, 69, 32, 65, 78, 68, 32, 65, 83, 32, 65, 83, 67, 32, 65, 86, 71, 32, 66, 69, 84, 87, 69, 69, 78, 32, 66, 73, 71, 73, 78, 84, 32, 66, 79, 79, 76, 32, 66, 89, 32, 67, 65, 83, 69, 32, 67, 79, 65, 76, 69, 83, 67, 69, 32, 67, 79, 85, 78, 84, 32, 67, 82, 69, 65, 84, 69, 32, 67, 82, 79, 83, 83, 32, 68, 69, 76, 69, 84, 69, 32, 68, 69, 83, 67, 32, 68, 73, 83, 84, 73, 78, 67, 84, 32, 68, 82, 79, 80, 32, 69, 76, 83, 69, 32, 69, 78, 68, 32, 69, 88, 67, 69, 80, 84, 32, 69, 88, 73, 83, 84, 83, 32, 69, 88, 80, 76, 65, 73, 78, 32, 70, 65, 76, 83, 69, 32, 70, 79, 82, 69, 73, 71, 78, 32, 70, 82, 79, 77, 32, 70, 85, 76, 76, 32, 71, 82, 79, 85, 80, 32, 72, 65, 86, 73, 78, 71, 32, 73, 78, 32, 73, 78, 68, 69, 88, 32, 73, 78, 78, 69, 82, 32, 73, 78, 83, 69, 82, 84, 32, 73, 78, 84, 32, 73, 78, 84, 69, 82, 83, 69, 67, 84, 32, 73, 78, 84, 79, 32, 73, 83, 32, 74, 79, 73, 78, 32, 75, 69, 89, 32, 76, 69, 70, 84, 32, 76, 69, 78, 71, 84, 72, 32, 76, 73, 75, 69, 32, 76, 73, 77, 73, 84, 32, 77, 65, 88, 32, 77, 73, 78, 32, 78, 79, 84, 32, 78, 85, 76, 76, 32, 79, 70, 70, 83, 69, 84, 32, 79, 78, 32, 79, 82, 32, 79, 82, 68, 69, 82, 32, 79, 85, 84, 69, 82, 32, 82, 69, 70, 69, 82, 69, 78, 67, 69, 83, 32, 82, 73, 71, 72, 84, 32, 83, 69, 76, 69, 67, 84, 32, 83, 85, 77, 32, 84, 65, 66, 76, 69, 32, 84, 69, 88, 84, 32, 84, 72, 69, 78, 32, 84, 79, 32, 84, 82, 85, 69, 32, 85, 78, 73, 79, 78, 32, 86, 65, 76, 85, 69, 83, 32, 87, 72, 69, 78, 32, 87, 72, 69, 82, 69]
def kwC : ByteArray := ⟨kwM.toArray⟩
set_option maxRecDepth 100000 in
theorem kwB_eq : ({ data := ((([32, 65, 76, 76, 32, 65, 78, 65, 76, 89, 90, 69, 32, 65, 78, 68, 32, 65, 83, 32, 65, 83, 67, 32, 65, 86, 71, 32, 66, 69, 84, 87, 69, 69, 78, 32, 66, 73, 71, 73, 78, 84, 32, 66, 79, 79].append [76, 32, 66, 89, 32, 67, 65, 83, 69, 32, 67, 79, 65, 76, 69, 83, 67, 69, 32, 67, 79, 85, 78, 84, 32, 67, 82, 69, 65, 84, 69, 32, 67, 82, 79, 83, 83, 32, 68, 69, 76, 69, 84, 69, 32, 68, 69]).append ([83, 67, 32, 68, 73, 83, 84, 73, 78, 67, 84, 32, 68, 82, 79, 80, 32, 69, 76, 83, 69, 32, 69, 78, 68, 32, 69, 88, 67, 69, 80, 84, 32, 69, 88, 73, 83, 84, 83, 32, 69, 88, 80, 76, 65, 73].append [78, 32, 70, 65, 76, 83, 69, 32, 70, 79, 82, 69, 73, 71, 78, 32, 70, 82, 79, 77, 32, 70, 85, 76, 76, 32, 71, 82, 79, 85, 80, 32, 72, 65, 86, 73, 78, 71, 32, 73, 78, 32, 73, 78, 68, 69, 88])).append (([32, 73, 78, 78, 69, 82, 32, 73, 78, 83, 69, 82, 84, 32, 73, 78, 84, 32, 73, 78, 84, 69, 82, 83, 69, 67, 84, 32, 73, 78, 84, 79, 32, 73, 83, 32, 74, 79, 73, 78, 32, 75, 69, 89, 32, 76].append [69, 70, 84, 32, 76, 69, 78, 71, 84, 72, 32, 76, 73, 75, 69, 32, 76, 73, 77, 73, 84, 32, 77, 65, 88, 32, 77, 73, 78, 32, 78, 79, 84, 32, 78, 85, 76, 76, 32, 79, 70, 70, 83, 69, 84, 32, 79]).append ([78, 32, 79, 82, 32, 79, 82, 68, 69, 82, 32, 79, 85, 84, 69, 82, 32, 82, 69, 70, 69, 82, 69, 78, 67, 69, 83, 32, 82, 73, 71, 72, 84, 32, 83, 69, 76, 69, 67, 84, 32, 83, 85, 77, 32, 84].append [65, 66, 76, 69, 32, 84, 69, 88, 84, 32, 84, 72, 69, 78, 32, 84, 79, 32, 84, 82, 85, 69, 32, 85, 78, 73, 79, 78, 32, 86, 65, 76, 85, 69, 83, 32, 87, 72, 69, 78, 32, 87, 72, 69, 82, 69, 32]))).toArray } : ByteArray) = kwB := by kernel_rfl
set_option maxRecDepth 100000 in
theorem kwC_eq : ({ data := ((([65, 76, 76, 32, 65, 78, 65, 76, 89, 90, 69, 32, 65, 78, 68, 32, 65, 83, 32, 65, 83, 67, 32, 65, 86, 71, 32, 66, 69, 84, 87, 69, 69, 78, 32, 66, 73, 71, 73, 78, 84, 32, 66, 79, 79, 76].append [32, 66, 89, 32, 67, 65, 83, 69, 32, 67, 79, 65, 76, 69, 83, 67, 69, 32, 67, 79, 85, 78, 84, 32, 67, 82, 69, 65, 84, 69, 32, 67, 82, 79, 83, 83, 32, 68, 69, 76, 69, 84, 69, 32, 68, 69]).append ([83, 67, 32, 68, 73, 83, 84, 73, 78, 67, 84, 32, 68, 82, 79, 80, 32, 69, 76, 83, 69, 32, 69, 78, 68, 32, 69, 88, 67, 69, 80, 84, 32, 69, 88, 73, 83, 84, 83, 32, 69, 88, 80, 76, 65, 73].append [78, 32, 70, 65, 76, 83, 69, 32, 70, 79, 82, 69, 73, 71, 78, 32, 70, 82, 79, 77, 32, 70, 85, 76, 76, 32, 71, 82, 79, 85, 80, 32, 72, 65, 86, 73, 78, 71, 32, 73, 78, 32, 73, 78, 68, 69, 88])).append (([32, 73, 78, 78, 69, 82, 32, 73, 78, 83, 69, 82, 84, 32, 73, 78, 84, 32, 73, 78, 84, 69, 82, 83, 69, 67, 84, 32, 73, 78, 84, 79, 32, 73, 83, 32, 74, 79, 73, 78, 32, 75, 69, 89, 32, 76].append [69, 70, 84, 32, 76, 69, 78, 71, 84, 72, 32, 76, 73, 75, 69, 32, 76, 73, 77, 73, 84, 32, 77, 65, 88, 32, 77, 73, 78, 32, 78, 79, 84, 32, 78, 85, 76, 76, 32, 79, 70, 70, 83, 69, 84, 32]).append ([79, 78, 32, 79, 82, 32, 79, 82, 68, 69, 82, 32, 79, 85, 84, 69, 82, 32, 82, 69, 70, 69, 82, 69, 78, 67, 69, 83, 32, 82, 73, 71, 72, 84, 32, 83, 69, 76, 69, 67, 84, 32, 83, 85, 77, 32].append [84, 65, 66, 76, 69, 32, 84, 69, 88, 84, 32, 84, 72, 69, 78, 32, 84, 79, 32, 84, 82, 85, 69, 32, 85, 78, 73, 79, 78, 32, 86, 65, 76, 85, 69, 83, 32, 87, 72, 69, 78, 32, 87, 72, 69, 82, 69]))).toArray } : ByteArray) = kwC := by kernel_rfl
theorem kwB_size : kwB.size = 372 := by kernel_rfl
theorem kwC_size : kwC.size = 370 := by kernel_rfl
def kwsL : List (List UInt8) := [[65, 76, 76], [65, 78, 65, 76, 89, 90, 69], [65, 78, 68], [65, 83], [65, 83, 67], [65, 86, 71], [66, 69, 84, 87, 69, 69, 78], [66, 73, 71, 73, 78, 84], [66, 79, 79, 76], [66, 89], [67, 65, 83, 69], [67, 79, 65, 76, 69, 83, 67, 69], [67, 79, 85, 78, 84], [67, 82, 69, 65, 84, 69], [67, 82, 79, 83, 83], [68, 69, 76, 69, 84, 69], [68, 69, 83, 67], [68, 73, 83, 84, 73, 78, 67, 84], [68, 82, 79, 80], [69, 76, 83, 69], [69, 78, 68], [69, 88, 67, 69, 80, 84], [69, 88, 73, 83, 84, 83], [69, 88, 80, 76, 65, 73, 78], [70, 65, 76, 83, 69], [70, 79, 82, 69, 73, 71, 78], [70, 82, 79, 77], [70, 85, 76, 76], [71, 82, 79, 85, 80], [72, 65, 86, 73, 78, 71], [73, 78], [73, 78, 68, 69, 88], [73, 78, 78, 69, 82], [73, 78, 83, 69, 82, 84], [73, 78, 84], [73, 78, 84, 69, 82, 83, 69, 67, 84], [73, 78, 84, 79], [73, 83], [74, 79, 73, 78], [75, 69, 89], [76, 69, 70, 84], [76, 69, 78, 71, 84, 72], [76, 73, 75, 69], [76, 73, 77, 73, 84], [77, 65, 88], [77, 73, 78], [78, 79, 84], [78, 85, 76, 76], [79, 70, 70, 83, 69, 84], [79, 78], [79, 82], [79, 82, 68, 69, 82], [79, 85, 84, 69, 82], [82, 69, 70, 69, 82, 69, 78, 67, 69, 83], [82, 73, 71, 72, 84], [83, 69, 76, 69, 67, 84], [83, 85, 77], [84, 65, 66, 76, 69], [84, 69, 88, 84], [84, 72, 69, 78], [84, 79], [84, 82, 85, 69], [85, 78, 73, 79, 78], [86, 65, 76, 85, 69, 83], [87, 72, 69, 78], [87, 72, 69, 82, 69]]
def isKw (l : List UInt8) : Bool := kwsL.contains l
end Go.Proofs.YthgfdnffnbclpaaGreatDoor.PAll
namespace Go.Proofs
open Go.Shelf
def Tryz.lays158_ren : Go.Shelf.Ren := ⟨fun | 158 => 109 | 165 => 143 | 166 => 144 | 167 => 145 | 169 => 146 | 230 => 147 | 203 => 150 | 240 => 168 | 241 => 169 | 197 => 170 | 118 => 171 | 168 => 172 | 270 => 173 | 262 => 174 | 276 => 188 | 277 => 189 | 260 => 190 | 242 => 191 | 313 => 192 | 278 => 199 | 274 => 200 | 275 => 201 | n => n, fun | 9 => 9 | 4 => 4 | 3 => 3 | 5 => 5 | 72 => 191 | 0 => 0 | 76 => 195 | 75 => 194 | 107 => 200 | 70 => 189 | 20 => 20 | 37 => 188 | 127 => 216 | 21 => 21 | 105 => 217 | 164 => 237 | 162 => 243 | 203 => 241 | 119 => 223 | 46 => 141 | 139 => 253 | 138 => 252 | 51 => 233 | 160 => 254 | 208 => 274 | 206 => 272 | 80 => 198 | n => n, fun | 13 => 1 | 3 => 4 | 4 => 5 | n => n⟩
theorem Tryz.lays158 : Go.Proofs.Lays.n158 Tryz.prog Tryz.lays158_ren := {
 mixed := by kernel_rfl
 f118 := Tryz.func171.trans (congrArg some (by kernel_rfl))
 f158 := Tryz.func109.trans (congrArg some (by kernel_rfl))
 f165 := Tryz.func143.trans (congrArg some (by kernel_rfl))
 f166 := Tryz.func144.trans (congrArg some (by kernel_rfl))
 f167 := Tryz.func145.trans (congrArg some (by kernel_rfl))
 f168 := Tryz.func172.trans (congrArg some (by kernel_rfl))
 f169 := Tryz.func146.trans (congrArg some (by kernel_rfl))
 f197 := Tryz.func170.trans (congrArg some (by kernel_rfl))
 f203 := Tryz.func150.trans (congrArg some (by kernel_rfl))
 f230 := Tryz.func147.trans (congrArg some (by kernel_rfl))
 f240 := Tryz.func168.trans (congrArg some (by kernel_rfl))
 f241 := Tryz.func169.trans (congrArg some (by kernel_rfl))
 f242 := Tryz.func191.trans (congrArg some (by kernel_rfl))
 f260 := Tryz.func190.trans (congrArg some (by kernel_rfl))
 f262 := Tryz.func174.trans (congrArg some (by kernel_rfl))
 f270 := Tryz.func173.trans (congrArg some (by kernel_rfl))
 f274 := Tryz.func200.trans (congrArg some (by kernel_rfl))
 f275 := Tryz.func201.trans (congrArg some (by kernel_rfl))
 f276 := Tryz.func188.trans (congrArg some (by kernel_rfl))
 f277 := Tryz.func189.trans (congrArg some (by kernel_rfl))
 f278 := Tryz.func199.trans (congrArg some (by kernel_rfl))
 f313 := Tryz.func192.trans (congrArg some (by kernel_rfl))
 t0 := Tryz.underlying0
 a0 := Tryz.isAgg0
 z0 := Tryz.sizeOf0
 v0 := Tryz.zeroValue0
 t3 := Tryz.underlying3
 a3 := Tryz.isAgg3
 z3 := Tryz.sizeOf3
 v3 := Tryz.zeroValue3
 t4 := Tryz.underlying4
 a4 := Tryz.isAgg4
 z4 := Tryz.sizeOf4
 v4 := Tryz.zeroValue4
 t5 := Tryz.underlying5
 a5 := Tryz.isAgg5
 z5 := Tryz.sizeOf5
 v5 := Tryz.zeroValue5
 t9 := Tryz.underlying9
 a9 := Tryz.isAgg9
 z9 := Tryz.sizeOf9
 v9 := Tryz.zeroValue9
 t20 := Tryz.underlying20
 a20 := Tryz.isAgg20
 z20 := Tryz.sizeOf20
 v20 := Tryz.zeroValue20
 t21 := Tryz.underlying21
 a21 := Tryz.isAgg21
 z21 := Tryz.sizeOf21
 v21 := Tryz.zeroValue21
 t37 := Tryz.underlying188
 a37 := Tryz.isAgg188
 z37 := Tryz.sizeOf188
 v37 := Tryz.zeroValue188
 t46 := Tryz.underlying141
 a46 := Tryz.isAgg141
 z46 := Tryz.sizeOf141
 v46 := Tryz.zeroValue141
 t51 := Tryz.underlying233
 a51 := Tryz.isAgg233
 z51 := Tryz.sizeOf233
 v51 := Tryz.zeroValue233
 t70 := Tryz.underlying189
 a70 := Tryz.isAgg189
 z70 := Tryz.sizeOf189
 v70 := Tryz.zeroValue189
 t72 := Tryz.underlying191
 a72 := Tryz.isAgg191
 z72 := Tryz.sizeOf191
 v72 := Tryz.zeroValue191
 t75 := Tryz.underlying194
 a75 := Tryz.isAgg194
 z75 := Tryz.sizeOf194
 v75 := Tryz.zeroValue194
 t76 := Tryz.underlying195
 a76 := Tryz.isAgg195
 z76 := Tryz.sizeOf195
 v76 := Tryz.zeroValue195
 t105 := Tryz.underlying217
 a105 := Tryz.isAgg217
 z105 := Tryz.sizeOf217
 v105 := Tryz.zeroValue217
 t107 := Tryz.underlying200
 a107 := Tryz.isAgg200
 z107 := Tryz.sizeOf200
 v107 := Tryz.zeroValue200
 t119 := Tryz.underlying223
 a119 := Tryz.isAgg223
 z119 := Tryz.sizeOf223
 t127 := Tryz.underlying216
 a127 := Tryz.isAgg216
 z127 := Tryz.sizeOf216
 v127 := Tryz.zeroValue216
 t138 := Tryz.underlying252
 a138 := Tryz.isAgg252
 z138 := Tryz.sizeOf252
 v138 := Tryz.zeroValue252
 t139 := Tryz.underlying253
 a139 := Tryz.isAgg253
 z139 := Tryz.sizeOf253
 v139 := Tryz.zeroValue253
 t160 := Tryz.underlying254
 a160 := Tryz.isAgg254
 z160 := Tryz.sizeOf254
 v160 := Tryz.zeroValue254
 t162 := Tryz.underlying243
 a162 := Tryz.isAgg243
 z162 := Tryz.sizeOf243
 v162 := Tryz.zeroValue243
 t164 := Tryz.underlying237
 a164 := Tryz.isAgg237
 z164 := Tryz.sizeOf237
 v164 := Tryz.zeroValue237
 t203 := Tryz.underlying241
 a203 := Tryz.isAgg241
 z203 := Tryz.sizeOf241
 v203 := Tryz.zeroValue241
 t206 := Tryz.underlying272
 a206 := Tryz.isAgg272
 z206 := Tryz.sizeOf272
 v206 := Tryz.zeroValue272
 t208 := Tryz.underlying274
 a208 := Tryz.isAgg274
 z208 := Tryz.sizeOf274
 v208 := Tryz.zeroValue274
 g3 := by kernel_rfl
 g4 := by kernel_rfl
 g13 := by kernel_rfl }
theorem Tryz.Builder_Extra_158 : Builder.Extra Tryz.prog Tryz.lays158_ren := {
 sizeBuilder := by kernel_rfl
 liesBuilder := by kernel_rfl
 t5 := Tryz.underlying5
 a5 := Tryz.isAgg5
 z5 := Tryz.sizeOf5
 v5 := Tryz.zeroValue5
 infoByte := by kernel_rfl
 cellsByte := by kernel_rfl
 sizeByte := by kernel_rfl
 neB5 := by decide }
open Go.RowKit in
theorem Tryz.strings_ToUpper_ascii (s : ByteArray) (w : World) (hs : s.size ≤ 140737488355328) (hascii : ∀ (j : Nat) (b : UInt8), s.data.toList[j]? = some b → b.toNat < 128) :
  Calls Tryz.prog 109 #[.string s] w fun e w' => e = .returned (.string ⟨(Lib.toUpperA s.data.toList).toArray⟩) ∧ Below w.heap.size w w' := Any.strings_ToUpper_ascii Tryz.lays158 Tryz.Builder_Extra_158 s w hs hascii
def Tryz.lays159_ren : Go.Shelf.Ren := ⟨fun | 159 => 107 | 165 => 143 | 166 => 144 | 167 => 145 | 169 => 146 | 230 => 147 | 204 => 148 | 240 => 168 | 241 => 169 | 197 => 170 | 118 => 171 | 168 => 172 | 270 => 173 | 262 => 174 | 276 => 188 | 277 => 189 | 260 => 190 | 242 => 191 | 313 => 192 | 278 => 199 | 274 => 200 | 275 => 201 | n => n, fun | 9 => 9 | 4 => 4 | 3 => 3 | 5 => 5 | 72 => 191 | 0 => 0 | 76 => 195 | 75 => 194 | 107 => 200 | 70 => 189 | 20 => 20 | 37 => 188 | 127 => 216 | 21 => 21 | 105 => 217 | 164 => 237 | 162 => 243 | 203 => 241 | 119 => 223 | 46 => 141 | 139 => 253 | 138 => 252 | 51 => 233 | 160 => 254 | 208 => 274 | 206 => 272 | 80 => 198 | n => n, fun | 13 => 1 | 3 => 4 | 4 => 5 | n => n⟩
theorem Tryz.lays159 : Go.Proofs.Lays.n159 Tryz.prog Tryz.lays159_ren := {
 mixed := by kernel_rfl
 f118 := Tryz.func171.trans (congrArg some (by kernel_rfl))
 f159 := Tryz.func107.trans (congrArg some (by kernel_rfl))
 f165 := Tryz.func143.trans (congrArg some (by kernel_rfl))
 f166 := Tryz.func144.trans (congrArg some (by kernel_rfl))
 f167 := Tryz.func145.trans (congrArg some (by kernel_rfl))
 f168 := Tryz.func172.trans (congrArg some (by kernel_rfl))
 f169 := Tryz.func146.trans (congrArg some (by kernel_rfl))
 f197 := Tryz.func170.trans (congrArg some (by kernel_rfl))
 f204 := Tryz.func148.trans (congrArg some (by kernel_rfl))
 f230 := Tryz.func147.trans (congrArg some (by kernel_rfl))
 f240 := Tryz.func168.trans (congrArg some (by kernel_rfl))
 f241 := Tryz.func169.trans (congrArg some (by kernel_rfl))
 f242 := Tryz.func191.trans (congrArg some (by kernel_rfl))
 f260 := Tryz.func190.trans (congrArg some (by kernel_rfl))
 f262 := Tryz.func174.trans (congrArg some (by kernel_rfl))
 f270 := Tryz.func173.trans (congrArg some (by kernel_rfl))
 f274 := Tryz.func200.trans (congrArg some (by kernel_rfl))
 f275 := Tryz.func201.trans (congrArg some (by kernel_rfl))
 f276 := Tryz.func188.trans (congrArg some (by kernel_rfl))
 f277 := Tryz.func189.trans (congrArg some (by kernel_rfl))
 f278 := Tryz.func199.trans (congrArg some (by kernel_rfl))
 f313 := Tryz.func192.trans (congrArg some (by kernel_rfl))
 t0 := Tryz.underlying0
 a0 := Tryz.isAgg0
 z0 := Tryz.sizeOf0
 v0 := Tryz.zeroValue0
 t3 := Tryz.underlying3
 a3 := Tryz.isAgg3
 z3 := Tryz.sizeOf3
 v3 := Tryz.zeroValue3
 t4 := Tryz.underlying4
 a4 := Tryz.isAgg4
 z4 := Tryz.sizeOf4
 v4 := Tryz.zeroValue4
 t5 := Tryz.underlying5
 a5 := Tryz.isAgg5
 z5 := Tryz.sizeOf5
 v5 := Tryz.zeroValue5
 t9 := Tryz.underlying9
 a9 := Tryz.isAgg9
 z9 := Tryz.sizeOf9
 v9 := Tryz.zeroValue9
 t20 := Tryz.underlying20
 a20 := Tryz.isAgg20
 z20 := Tryz.sizeOf20
 v20 := Tryz.zeroValue20
 t21 := Tryz.underlying21
 a21 := Tryz.isAgg21
 z21 := Tryz.sizeOf21
 v21 := Tryz.zeroValue21
 t37 := Tryz.underlying188
 a37 := Tryz.isAgg188
 z37 := Tryz.sizeOf188
 v37 := Tryz.zeroValue188
 t46 := Tryz.underlying141
 a46 := Tryz.isAgg141
 z46 := Tryz.sizeOf141
 v46 := Tryz.zeroValue141
 t51 := Tryz.underlying233
 a51 := Tryz.isAgg233
 z51 := Tryz.sizeOf233
 v51 := Tryz.zeroValue233
 t70 := Tryz.underlying189
 a70 := Tryz.isAgg189
 z70 := Tryz.sizeOf189
 v70 := Tryz.zeroValue189
 t72 := Tryz.underlying191
 a72 := Tryz.isAgg191
 z72 := Tryz.sizeOf191
 v72 := Tryz.zeroValue191
 t75 := Tryz.underlying194
 a75 := Tryz.isAgg194
 z75 := Tryz.sizeOf194
 v75 := Tryz.zeroValue194
 t76 := Tryz.underlying195
 a76 := Tryz.isAgg195
 z76 := Tryz.sizeOf195
 v76 := Tryz.zeroValue195
 t105 := Tryz.underlying217
 a105 := Tryz.isAgg217
 z105 := Tryz.sizeOf217
 v105 := Tryz.zeroValue217
 t107 := Tryz.underlying200
 a107 := Tryz.isAgg200
 z107 := Tryz.sizeOf200
 v107 := Tryz.zeroValue200
 t119 := Tryz.underlying223
 a119 := Tryz.isAgg223
 z119 := Tryz.sizeOf223
 t127 := Tryz.underlying216
 a127 := Tryz.isAgg216
 z127 := Tryz.sizeOf216
 v127 := Tryz.zeroValue216
 t138 := Tryz.underlying252
 a138 := Tryz.isAgg252
 z138 := Tryz.sizeOf252
 v138 := Tryz.zeroValue252
 t139 := Tryz.underlying253
 a139 := Tryz.isAgg253
 z139 := Tryz.sizeOf253
 v139 := Tryz.zeroValue253
 t160 := Tryz.underlying254
 a160 := Tryz.isAgg254
 z160 := Tryz.sizeOf254
 v160 := Tryz.zeroValue254
 t162 := Tryz.underlying243
 a162 := Tryz.isAgg243
 z162 := Tryz.sizeOf243
 v162 := Tryz.zeroValue243
 t164 := Tryz.underlying237
 a164 := Tryz.isAgg237
 z164 := Tryz.sizeOf237
 v164 := Tryz.zeroValue237
 t203 := Tryz.underlying241
 a203 := Tryz.isAgg241
 z203 := Tryz.sizeOf241
 v203 := Tryz.zeroValue241
 t206 := Tryz.underlying272
 a206 := Tryz.isAgg272
 z206 := Tryz.sizeOf272
 v206 := Tryz.zeroValue272
 t208 := Tryz.underlying274
 a208 := Tryz.isAgg274
 z208 := Tryz.sizeOf274
 v208 := Tryz.zeroValue274
 g3 := by kernel_rfl
 g4 := by kernel_rfl
 g13 := by kernel_rfl }
theorem Tryz.Builder_Extra_159 : Builder.Extra Tryz.prog Tryz.lays159_ren := {
 sizeBuilder := by kernel_rfl
 liesBuilder := by kernel_rfl
 t5 := Tryz.underlying5
 a5 := Tryz.isAgg5
 z5 := Tryz.sizeOf5
 v5 := Tryz.zeroValue5
 infoByte := by kernel_rfl
 cellsByte := by kernel_rfl
 sizeByte := by kernel_rfl
 neB5 := by decide }
open Go.RowKit in
theorem Tryz.strings_ToLower_ascii (s : ByteArray) (w : World) (hs : s.size ≤ 140737488355328) (hascii : ∀ (j : Nat) (b : UInt8), s.data.toList[j]? = some b → b.toNat < 128) :
  Calls Tryz.prog 107 #[.string s] w fun e w' => e = .returned (.string ⟨(Lib.toLowerA s.data.toList).toArray⟩) ∧ Below w.heap.size w w' := Any.strings_ToLower_ascii Tryz.lays159 Tryz.Builder_Extra_159 s w hs hascii
end Go.Proofs
namespace Go.Proofs.YthgfdnffnbclpaaGreatDoor.PAll
open Go.RowKit Go.Proofs.YthgfdnffnbclpaaGreatDoorW.PrintWords Go.Proofs.YthgfdnffnbclpaaGreatDoorW.PrintLast Go.Proofs.YthgfdnffnbclpaaGreatDoorW.PrintMore
structure LaidL (w : World) : Prop where
 tab : ∀ c : Nat, c < 256 → w.cell? ⟨0, c, none⟩ = some (.int .u8 (if c = 9 ∨ c = 10 ∨ c = 11 ∨ c = 12 ∨ c = 13 ∨ c = 32 then 1 else 0))
theorem cell_below {w0 w : World} (hb : Below w0.heap.size w0 w) {p : Addr} {v : Value} (h : w0.cell? p = some v) : w.cell? p = some v := by
 rw [hb.cell]
 ·exact h
 ·cases hh : w0.heap[p.block]? with
  | none => simp [World.cell?, hh] at h
  | some o => exact (Array.getElem?_eq_some_iff.1 hh).1
theorem LaidL.below {w0 w : World} (h : Aside0 (LaidL w0)) (hb : Below w0.heap.size w0 w) : LaidL w := by
 obtain ⟨ht⟩ := h.out
 exact ⟨fun c hc => cell_below hb (ht c hc)⟩
def ascii (s : ByteArray) : Bool := s.data.toList.all fun b => b.toNat < 128
theorem ascii_at {s : ByteArray} (h : ascii s = true) (j : Nat) (b : UInt8) (hb : s.data.toList[j]? = some b) : b.toNat < 128 := by
 unfold ascii at h
 rw [List.all_eq_true] at h
 simpa using h b (List.mem_of_getElem? hb)
def strings_ToUpper.f (a0 : ByteArray) : Option (ByteArray) := if a0.size ≤ 140737488355328 ∧ ascii a0 = true then some ⟨(Lib.toUpperA a0.data.toList).toArray⟩ else none
theorem strings_ToUpper.calls (a0 : ByteArray) (r : ByteArray) (w : World) (h : strings_ToUpper.f a0 = some r) :
  Calls Tryz.prog 109 #[.string a0] w fun e w' => e = .returned (.string r) ∧ Below w.heap.size w w' := by
 unfold strings_ToUpper.f at h
 split at h
 ·rename_i hc
  obtain rfl := Option.some.inj h
  exact Tryz.strings_ToUpper_ascii a0 w hc.1 (ascii_at hc.2)
 ·cases h
def strings_ToLower.f (a0 : ByteArray) : Option (ByteArray) := if a0.size ≤ 140737488355328 ∧ ascii a0 = true then some ⟨(Lib.toLowerA a0.data.toList).toArray⟩ else none
theorem strings_ToLower.calls (a0 : ByteArray) (r : ByteArray) (w : World) (h : strings_ToLower.f a0 = some r) :
  Calls Tryz.prog 107 #[.string a0] w fun e w' => e = .returned (.string r) ∧ Below w.heap.size w w' := by
 unfold strings_ToLower.f at h
 split at h
 ·rename_i hc
  obtain rfl := Option.some.inj h
  exact Tryz.strings_ToLower_ascii a0 w hc.1 (ascii_at hc.2)
 ·cases h
def cellsV (x : S64) : List Value := [.int .u8 x.f0, .int .i64 x.f1, .string x.f2]
def tupC (t : List S64) : List Value := t.flatMap cellsV
def tup0 : List S64 := List.replicate 8 z64
def pickP (row : List S64) : Nat → List Int → List S64 → Option (List S64 × Bool)
 | _, [], t => some (t, true)
 | i, c :: r, t => if i < 8 ∧ 0 ≤ c ∧ c < (row.length : Int) then (if (rd_T64 row c).f0 = 0 then some (t.set i (rd_T64 row c), false) else pickP row (i + 1) r (t.set i (rd_T64 row c))) else none
theorem tupC_at (t : List S64) : ∀ (q r : Nat), r < 3 → (tupC t)[3 * q + r]? = (t[q]?).bind fun x => (cellsV x)[r]? := by
 induction t with
 | nil => intro q r _; simp [tupC]
 | cons x t ih =>
  intro q r hr
  have e : tupC (x :: t) = cellsV x ++ tupC t := by simp [tupC]
  have hl : (cellsV x).length = 3 := rfl
  rw [e]
  cases q with
  | zero => rw [List.getElem?_append_left (by omega)]; simp
  | succ q => rw [List.getElem?_append_right (by omega), hl, show 3 * (q + 1) + r - 3 = 3 * q + r by omega, ih q r hr]; simp
theorem tupC_len (t : List S64) : (tupC t).length = 3 * t.length := by
 induction t with
 | nil => rfl
 | cons x t ih =>
  have e : tupC (x :: t) = cellsV x ++ tupC t := by simp [tupC]
  have hl : (cellsV x).length = 3 := rfl
  rw [e, List.length_append, ih, hl, List.length_cons]; omega
def tupF (t : List S64) (j : Nat) : Value := ((tupC t)[j]?).getD default
theorem tupF_set (t : List S64) (i : Nat) (hi : i < t.length) (v : S64) (j : Nat) : (if 3 * i ≤ j ∧ j < 3 * i + 3 then ((cellsV v)[j - 3 * i]?).getD default else tupF t j) = tupF (t.set i v) j := by
 obtain ⟨q, r, hr, rfl⟩ : ∃ q r, r < 3 ∧ j = 3 * q + r := ⟨j / 3, j % 3, by omega, by omega⟩
 unfold tupF
 rw [tupC_at _ q r hr, tupC_at _ q r hr, List.getElem?_set]
 by_cases h : i = q
 ·subst h
  rw [if_pos (by omega), if_pos rfl, if_pos hi, show 3 * i + r - 3 * i = r by omega]
  rfl
 ·rw [if_neg (by omega), if_neg h]
def TB (w : World) (B : Nat) (t : List S64) : Prop := w.rowIs B 170 24 (tupF t) ∧ t.length = 8
theorem TB.range {w : World} {B : Nat} {t : List S64} (h : TB w B t) : w.rangeAt B 0 (tupC t) := by
 intro j v hj
 have hl := tupC_len t
 have hlt : j < 24 := by have := (List.getElem?_eq_some_iff.1 hj).1; have := h.2; omega
 rw [Nat.zero_add, h.1.cell hlt]
 unfold tupF
 rw [hj]; rfl
theorem TB.there {w : World} {B : Nat} {t : List S64} (h : TB w B t) (o n : Nat) (hn : o + n ≤ 24) : w.there B o n := by
 intro j hj
 rw [h.1.cell (by omega)]
 exact ⟨rfl, h.1.frozen _⟩
theorem TB.set {w : World} {B : Nat} {t : List S64} (h : TB w B t) (i : Nat) (hi : i < 8) (v : S64) : TB (w.setCells B (i * 3) (cellsV v)) B (t.set i v) := by
 rw [Nat.mul_comm i 3]
 refine ⟨(Go.rowIs_setCells (cellsV v) (3 * i) w _ h.1).congr (fun j hj => ?_), by rw [List.length_set]; exact h.2⟩
 exact tupF_set t i (by rw [h.2]; exact hi) v j
theorem cellsV_one (x : S64) : (cellsV x).toArray.all (·.oneCell') = true := by simp [cellsV, Value.oneCell']
theorem tupC_one (t : List S64) : (tupC t).toArray.all (·.oneCell') = true := by
 rw [Array.all_eq_true_iff_forall_mem]
 intro v hv
 have hv' : v ∈ tupC t := by simpa using hv
 unfold tupC at hv'
 obtain ⟨x, _, hx⟩ := List.mem_flatMap.1 hv'
 simp [cellsV] at hx
 rcases hx with rfl | rfl | rfl <;> rfl
theorem TB.self {w : World} {B : Nat} {t : List S64} (h : TB w B t) : TB (w.setCells B 0 (tupC t)) B t := by
 refine ⟨(Go.rowIs_setCells (tupC t) 0 w _ h.1).congr (fun j hj => ?_), h.2⟩
 have hl := tupC_len t
 rw [if_pos (by have := h.2; omega)]
 rfl
set_option maxRecDepth 100000 in
theorem pick_walk (A : Option Addr) (c : Nat) (row : List S64) (A2 : Option Addr) (c2 : Nat) (cols : List Int) (t : List S64) (b : Bool) (w : World) (hC : Kd.C k64 w A row.length row) (hc : row.length ≤ c) (hC2 : Kd.C (Kd.int .i64) w A2 cols.length cols) (hc2 : cols.length ≤ c2)
  (h : pickP row 0 cols tup0 = some (t, b)) :
  Calls Tryz.prog 125 #[.slice A row.length c, .slice A2 cols.length c2] w fun e w' => e = .returned (.tuple #[.agg (tupC t).toArray, .bool b]) ∧ Below w.heap.size w w' := by
 obtain ⟨B, hBd⟩ : ∃ B, B = w.heap.size := ⟨_, rfl⟩
 have HBD := Aside0.mk hBd
 have HC := Aside0.mk hC
 have HC2 := Aside0.mk hC2
 have HH := Aside0.mk h
 clear hC hC2 h
 go_enter Tryz.func125, Tryz.ntmps125
 go_wp2
 have htb : TB (w.alloc (Obj.cells #[Value.int IntKind.u8 0, Value.int IntKind.i64 0, Value.string ⟨#[]⟩, Value.int IntKind.u8 0, Value.int IntKind.i64 0, Value.string ⟨#[]⟩, Value.int IntKind.u8 0, Value.int IntKind.i64 0, Value.string ⟨#[]⟩, Value.int IntKind.u8 0, Value.int IntKind.i64 0, Value.string ⟨#[]⟩,
   Value.int IntKind.u8 0, Value.int IntKind.i64 0, Value.string ⟨#[]⟩, Value.int IntKind.u8 0, Value.int IntKind.i64 0, Value.string ⟨#[]⟩, Value.int IntKind.u8 0, Value.int IntKind.i64 0, Value.string ⟨#[]⟩, Value.int IntKind.u8 0, Value.int IntKind.i64 0, Value.string ⟨#[]⟩] 170)) B tup0 := by
  rw [hBd]
  refine ⟨World.rowIs_alloc w (tupC tup0).toArray 170 _ (fun j hj => ?_), rfl⟩
  unfold tupF
  have : j < (tupC tup0).length := by simpa using hj
  rw [List.getElem?_toArray, List.getElem?_eq_getElem this]
  rfl
 have hbel : Below w.heap.size w (w.alloc (Obj.cells #[Value.int IntKind.u8 0, Value.int IntKind.i64 0, Value.string ⟨#[]⟩, Value.int IntKind.u8 0, Value.int IntKind.i64 0, Value.string ⟨#[]⟩, Value.int IntKind.u8 0, Value.int IntKind.i64 0, Value.string ⟨#[]⟩, Value.int IntKind.u8 0, Value.int IntKind.i64 0, Value.string ⟨#[]⟩,
   Value.int IntKind.u8 0, Value.int IntKind.i64 0, Value.string ⟨#[]⟩, Value.int IntKind.u8 0, Value.int IntKind.i64 0, Value.string ⟨#[]⟩, Value.int IntKind.u8 0, Value.int IntKind.i64 0, Value.string ⟨#[]⟩, Value.int IntKind.u8 0, Value.int IntKind.i64 0, Value.string ⟨#[]⟩] 170)) := (Below.refl _ _).alloc (Nat.le_refl _) _
 generalize (w.alloc _) = W1 at htb hbel ⊢
 rw [← hBd]
 have HBL := Aside0.mk hbel
 have HTB := Aside0.mk htb
 clear hbel htb hBd
 go_loopg [10] cols.length (fun gk v10 wx => ∃ (i : Nat) (t1 : List S64), i + gk = cols.length ∧ v10 = .int .i64 i ∧ Aside0 (TB wx B t1) ∧ Aside0 (Below w.heap.size w wx) ∧ Aside0 (pickP row i (cols.drop i) t1 = some (t, b)))
 case atStart => exact ⟨0, tup0, by omega, rfl, HTB, HBL, HH⟩
 case round =>
  obtain ⟨i, t1, hi, rfl, HT, HW, HP⟩ := hrel
  cases gk with
  | zero =>
   have e : cols.drop i = [] := List.drop_eq_nil_of_le (by omega)
   have hp := HP.out
   rw [e] at hp
   simp only [pickP, Option.some.injEq, Prod.mk.injEq] at hp
   obtain ⟨rfl, rfl⟩ := hp
   have hii : ¬ (i : Int) < (cols.length : Int) := by omega
   have hz : (Tryz.prog.info? 170).map (·.size) = some (tupC t1).length := by rw [tupC_len, HT.out.2]; kernel_rfl
   have hza : (Tryz.prog.info? 170).map (·.size) = some (tupC t1).toArray.size := by rw [List.size_toArray]; exact hz
   have hone : (tupC t1).toArray.all (·.oneCell') = true := tupC_one t1
   have hth : wr.there B 0 (tupC t1).toArray.size := HT.out.there 0 _ (by rw [List.size_toArray, tupC_len, HT.out.2]; omega)
   go_wp2_with (first | (refine wpList_load_mid rfl 170 (.tmp 4) rfl B 0 rfl (tupC t1) _ HT.out.range Tryz.underlying170 rfl hz ?_) | (refine wpList_store_mid rfl 170 (.tmp 4) _ rfl B 0 (tupC t1).toArray rfl rfl hth hza hone ?_))
   have hV := Aside0.mk (run_loadVar_mid (P := Tryz.prog) _ B 0 170 (tupC t1) _ HT.out.self.range Tryz.underlying170 rfl hz)
   refine bodyPost_ret (v := .tuple #[.agg (tupC t1).toArray, .bool true]) (by rw [results_cell_tmp rfl]; show (((loadVar 170 ⟨B, 0, none⟩).run _ _).andThen _) = _; rw [hV.out]; rfl) rfl ⟨rfl, ?_⟩
   exact Go.below_setCells (B := w.heap.size) (by rw [← HBD.out]; exact Nat.le_refl _) _ _ _ HW.out
  | succ gk =>
   have hlt : i < cols.length := by omega
   have hii : (i : Int) < (cols.length : Int) := by omega
   have hi0 : (0 : Int) ≤ (i : Int) := by omega
   have hdr : cols.drop i = cols[i] :: cols.drop (i + 1) := List.drop_eq_getElem_cons hlt
   have hrd : rd cols (i : Int) = cols[i] := by unfold rd; simp [List.getD, hlt]
   obtain ⟨ad2, hA2, hx2⟩ := Kd.at_int HC2.out (i : Int) hi0 hii
   cases hA2
   rw [hrd, Int.toNat_natCast] at hx2
   have hr2 := (HW.out.cell (World.block_lt_of_cell? w _ hx2)).trans hx2
   have hp := HP.out
   rw [hdr, pickP] at hp
   generalize cols[i] = cc at *
   by_cases hin : i < 8 ∧ 0 ≤ cc ∧ cc < (row.length : Int)
   case neg => rw [if_neg hin] at hp; cases hp
   rw [if_pos hin] at hp
   obtain ⟨h8, hc0, hcl⟩ := hin
   obtain ⟨ad, hA, hy0, hy1, hy2⟩ := at_T64 HC.out cc hc0 hcl
   cases hA
   have hz0 := (HW.out.cell (World.block_lt_of_cell? w _ hy0)).trans hy0
   have hz1 := (HW.out.cell (World.block_lt_of_cell? w _ hy1)).trans hy1
   have hz2 := (HW.out.cell (World.block_lt_of_cell? w _ hy2)).trans hy2
   generalize hv : rd_T64 row cc = v at *
   have hthi : wr.there B (i * 3) (cellsV v).toArray.size := HT.out.there _ _ (by simp [cellsV]; omega)
   have hzi : (Tryz.prog.info? 87).map (·.size) = some (cellsV v).toArray.size := by
    show _ = some 3
    kernel_rfl
   have h8i : (i : Int) < 8 := by omega
   have hT2 := HT.out.set i h8 v
   have hc2' : (wr.setCells B (i * 3) (cellsV v)).cell? ⟨B, i * 3, none⟩ = some (.int .u8 v.f0) := by
    rw [hT2.1.cell (by omega)]
    unfold tupF
    have := tupC_at (t1.set i v) i 0 (by omega)
    rw [show i * 3 = 3 * i + 0 by omega, this, List.getElem?_set_self (by rw [HT.out.2]; exact h8)]
    rfl
   have hB2 : Below w.heap.size w (wr.setCells B (i * 3) (cellsV v)) := Go.below_setCells (B := w.heap.size) (by rw [← HBD.out]; exact Nat.le_refl _) _ _ _ HW.out
   have hsv : (cellsV v).toArray = #[.int .u8 v.f0, .int .i64 v.f1, .string v.f2] := rfl
   rw [hsv] at hthi hzi
   have hone : (#[.int .u8 v.f0, .int .i64 v.f1, .string v.f2] : Array Value).all (·.oneCell') = true := cellsV_one v
   generalize hW2 : wr.setCells B (i * 3) (cellsV v) = W2 at *
   have hW2' : wr.setCells B (i * 3) (#[.int .u8 v.f0, .int .i64 v.f1, .string v.f2] : Array Value).toList = W2 := hW2
   by_cases hv0 : v.f0 = 0
   ·rw [if_pos hv0] at hp
    simp only [Option.some.injEq, Prod.mk.injEq] at hp
    obtain ⟨rfl, rfl⟩ := hp
    have hv0b : (v.f0 == 0) = true := beq_iff_eq.mpr hv0
    clear hv0
    have hT2' := Aside0.mk hT2
    clear hT2
    have hz : (Tryz.prog.info? 170).map (·.size) = some (tupC (t1.set i v)).length := by rw [tupC_len, hT2'.out.2]; kernel_rfl
    have hza : (Tryz.prog.info? 170).map (·.size) = some (tupC (t1.set i v)).toArray.size := by rw [List.size_toArray]; exact hz
    have hone2 : (tupC (t1.set i v)).toArray.all (·.oneCell') = true := tupC_one _
    have hth2 : W2.there B 0 (tupC (t1.set i v)).toArray.size := hT2'.out.there 0 _ (by rw [List.size_toArray, tupC_len, hT2'.out.2]; omega)
    go_wp2_with (first | (refine wpList_store_mid rfl 87 (.tmp 20) _ rfl B (i * 3) _ rfl rfl hthi hzi hone ?_; rw [hW2']) | (refine wpList_load_mid rfl 170 (.tmp 4) rfl B 0 rfl (tupC (t1.set i v)) _ hT2'.out.range Tryz.underlying170 rfl hz ?_) | (refine wpList_store_mid rfl 170 (.tmp 4) _ rfl B 0 (tupC (t1.set i v)).toArray rfl rfl hth2 hza hone2 ?_))
    have hV := Aside0.mk (run_loadVar_mid (P := Tryz.prog) _ B 0 170 (tupC (t1.set i v)) _ hT2'.out.self.range Tryz.underlying170 rfl hz)
    (try simp only [Exit.inBlock, Exit.then])
    refine bodyPost_ret (v := .tuple #[.agg (tupC (t1.set i v)).toArray, .bool false]) (by rw [results_cell_tmp rfl]; show (((loadVar 170 ⟨B, 0, none⟩).run _ _).andThen _) = _; rw [hV.out]; rfl) rfl ⟨rfl, ?_⟩
    exact Go.below_setCells (B := w.heap.size) (by rw [← HBD.out]; exact Nat.le_refl _) _ _ _ hB2
   ·rw [if_neg hv0] at hp
    have hT2' := Aside0.mk hT2
    clear hT2
    have hv0b : (v.f0 == 0) = false := beq_eq_false_iff_ne.mpr hv0
    go_wp2_with (first | (refine wpList_store_mid rfl 87 (.tmp 20) _ rfl B (i * 3) _ rfl rfl hthi hzi hone ?_; rw [hW2']))
    go_roundg gk
    case measure => omega
    case rel => exact ⟨i + 1, t1.set i v, by omega, by first | rfl | (simp; done) | (simp; unfold wrap64; omega), hT2', ⟨hB2⟩, ⟨hp⟩⟩
end Go.Proofs.YthgfdnffnbclpaaGreatDoor.PAll
namespace Go.Proofs.YthgfdnffnbclpaaGreatDoor.PAll
open Go Go.ChangeMaps Go.MapKept Go.RowKit
open Go.WideElems (Fit rd rg pl rd_val elemAt)
open Go.Maps (Keyed)
def boolR : Value → Option (DataW Unit × List MemPlace)
 | .bool true => some (.lit (.bool true), [])
 | _ => none
theorem boolR_inv {v : Value} {z : DataW Unit × List MemPlace} (h : boolR v = some z) : v = .bool true := by
 unfold boolR at h
 split at h
 ·rfl
 ·cases h
section
variable {P : Program} {k t e : TypeId} {w : World} {b : Nat} {R : Value → Option (DataW Unit × List MemPlace)} {S : List Value}
def SetM (P : Program) (k : TypeId) (R : Value → Option (DataW Unit × List MemPlace)) (w : World) (b : Nat) (S : List Value) : Prop :=
 ∃ D : DataW Unit, w.ownsMap P k R b S.length D ∧ ∀ v l, keyOf P k v = some l → (Maps.has D l = true ↔ v ∈ S)
theorem SetM.made (w : World) : SetM P k R (w.alloc (.map #[] 0)) w.heap.size [] :=
 ⟨.map [], World.ownsMap_made w P k R, fun v l _ => by simp [Maps.has]⟩
theorem SetM.kept {w' : World} (h : SetM P k R w b S) (hb : w'.heap[b]? = w.heap[b]?) : SetM P k R w' b S := by
 obtain ⟨D, ⟨es, clock, h1, h2⟩, hD⟩ := h
 exact ⟨D, ⟨es, clock, hb.trans h1, h2⟩, hD⟩
theorem SetM.block (h : SetM P k R w b S) : ∃ es clock, w.heap[b]? = some (.map es clock) := by
 obtain ⟨D, ⟨es, clock, h1, h2⟩, hD⟩ := h
 exact ⟨es, clock, h1⟩
theorem SetM.look_bool (h : SetM P k boolR w b S) (K : Keyed P k) (ht : P.underlying t = some (.map k e)) (hz : (zeroValue e).run P w = .ok (.bool false) w) {key : Value} {kl : Lit} (hkey : keyOf P k key = some kl) (m : Bool) (hm : m = true ↔ key ∈ S) :
  (Instr.lookup t (.map (some b)) key false).run P w = .ok (.bool m) w := by
 obtain ⟨D, ⟨es, clock, hb, F, hs, rfl⟩, hD⟩ := h
 rcases Maps.fit_look false K ht hz hb F hkey with ⟨hrun, _, hat⟩ | ⟨e0, y, _, _, hrun, hRv, hat, _⟩
 ·have h0 := Maps.has_false_of_atKey hat
  have hm' : m = false := by
   cases m
   ·rfl
   ·have := (hD _ _ hkey).2 (hm.1 rfl)
    rw [h0] at this
    cases this
  rw [hm']
  exact hrun
 ·have h0 := Maps.has_true_of_atKey hat
  have hm' : m = true := hm.2 ((hD _ _ hkey).1 h0)
  rw [hm', ← boolR_inv hRv]
  exact hrun
theorem SetM.look_unit (h : SetM P k (unitElem (H := Unit)) w b S) (K : Keyed P k) (ht : P.underlying t = some (.map k e)) (hz : (zeroValue e).run P w = .ok (.agg #[]) w) {key : Value} {kl : Lit} (hkey : keyOf P k key = some kl) (m : Bool) (hm : m = true ↔ key ∈ S) :
  (Instr.lookup t (.map (some b)) key true).run P w = .ok (.tuple #[.agg #[], .bool m]) w := by
 obtain ⟨D, ho, hD⟩ := h
 obtain ⟨v, ps, hrun, hv⟩ := ho.look_ok K ht hz (zd := .agg []) (zp := []) unitElem_mk hkey
 obtain ⟨rfl, _⟩ := unitElem_inv hv
 have : m = Maps.has D kl := by
  cases hh : Maps.has D kl with
  | true => exact hm.2 ((hD _ _ hkey).1 hh)
  | false =>
   cases m with
   | false => rfl
   | true => have := (hD _ _ hkey).2 (hm.1 rfl); rw [hh] at this; cases this
 rw [this]
 exact hrun
theorem SetM.store (h : SetM P k R w b S) (K : Keyed P k) (ht : P.underlying t = some (.map k e)) (hn : S.length < maxLen) {key val : Value} {kl : Lit} {d : DataW Unit} {ps : List MemPlace}
  (hkey : keyOf P k key = some kl) (hv : R val = some (d, ps)) : ∃ w', (Instr.mapUpdate t (.map (some b)) key val).run P w = .ok () w' ∧ SetM P k R w' b (key :: S) ∧ w.mapTurned w' b := by
 obtain ⟨D, ho, hD⟩ := h
 obtain ⟨w', h1, h2, h3⟩ := ho.store K ht hn hkey hv
 refine ⟨w', h1, ⟨_, h2, fun v l hl => ?_⟩, h3⟩
 by_cases he : v = key
 ·subst he
  obtain rfl : kl = l := Option.some.inj (hkey.symm.trans hl)
  rw [Maps.has_put_same ho.isMap (K.key hkey) d]
  simp
 ·have hne : l ≠ kl := fun e' => he (K.inj hl (e' ▸ hkey))
  rw [Maps.has_put_other hne d, hD v l hl]
  simp [he]
end
section
variable {P : Program} (w : World) {ops : Array Oper} {rest : List Oper} {o : Oper} {a : Act} {Q : Exit → Act → World → Prop}
theorem wpList_look_run (hg : o.guard = none) (m x : Operand) (t : TypeId) (c : Bool) (hop : o.op = Op.lookup t m x c) {mv key r : Value} (hm : a.eval m = mv) (hx : a.eval x = key)
  (hrun : (Instr.lookup t mv key c).run P w = .ok r w) (hK : wpList P ops Q rest (a.put o.dst r) w) : wpList P ops Q (o :: rest) a w := by
 refine wpList_plain hg fun K' hK' => ?_
 unfold Oper.wp
 simp [execOp, hop, hm, hx, hrun, Result.andThen]
 exact hK' _ _ hK
theorem wpList_store_run (hg : o.guard = none) (m x v : Operand) (t : TypeId) (hop : o.op = Op.mapUpdate t m x v) {mv key val : Value} {w' : World} (hm : a.eval m = mv) (hx : a.eval x = key) (hv : a.eval v = val)
  (hrun : (Instr.mapUpdate t mv key val).run P w = .ok () w') (hK : wpList P ops Q rest (a.put o.dst undef) w') : wpList P ops Q (o :: rest) a w := by
 refine wpList_plain hg fun K' hK' => ?_
 unfold Oper.wp
 simp [execOp, hop, hm, hx, hv, hrun, Result.andThen]
 exact hK' _ _ hK
end
end Go.Proofs.YthgfdnffnbclpaaGreatDoor.PAll
namespace Go.Proofs.YthgfdnffnbclpaaGreatDoor.PAll
open Go.RowKit Go.Proofs.YthgfdnffnbclpaaGreatDoorW.PrintWords Go.Proofs.YthgfdnffnbclpaaGreatDoorW.PrintLast Go.Proofs.YthgfdnffnbclpaaGreatDoorW.PrintMore
section
variable {P : Program} {ops : Array Oper} {Q : Exit → Act → World → Prop}
theorem gate_value {rest : List Oper} {o : Oper} {a : Act} {W : World} {x : Operand} {xs : Array Operand} {ts : Array TypeId} (_ho : o.op = .call { callee := .value x, args := xs, argTypes := ts }) (h : wpList P ops Q (o :: rest) a W) : wpList P ops Q (o :: rest) a W := h
theorem goesV_ {rest : List Oper} {oi : Oper} {a : Act} {w : World} (N : Option Tmp) (x : Operand) (hd : oi.dst = N) (hg : oi.guard = none) {f : FuncId} {fn : Func} {xs : Array Operand} {ts : Array TypeId} (hf : P.funcs[f]? = some fn) (hname : (fn.name == "runtime.NumGoroutine") = false) (hb : fn.body.isSome = true) (args : Array Value)
  (hop : oi.op = .call { callee := .value x, args := xs, argTypes := ts }) (hargs : xs.map a.eval = args)
  (h : Calls P f args w fun e w' => ∃ v, e = .returned v ∧ wpList P ops Q rest (a.put N v) w') (hx : a.eval x = .func (.func f) #[] #[] := by rfl) : wpList P ops Q (oi :: rest) a w := by
 refine wpList_plain hg fun K hK => ?_
 have he := enters_ hf hname hb args w
 have hrun : (execOp a.eval oi).run P w = .ok (.enter f args) w := by
  unfold execOp
  simp [hop, resolve, Deferred.ofValue, invoke, hargs, he, hx]
 unfold Oper.wp
 rw [hrun, Oper.upon_enter]
 refine h.mono fun e w'' hh => ?_
 obtain ⟨v, rfl, hk⟩ := hh
 subst hd
 exact hK _ _ hk
end
end Go.Proofs.YthgfdnffnbclpaaGreatDoor.PAll
