import Derived.Test.YthgfdnffnbclpaaGreatDoorSQM14
import Derived.Test.YthgfdnffnbclpaaGreatDoorSQM04
import Derived.JoinedCond
import Derived.HandedShaped
import Derived.Test.YthgfdnffnbclpaaGreatDoorSQM12
import Derived.Test.YthgfdnffnbclpaaGreatDoorSQM13
import Derived.Test.YthgfdnffnbclpaaGreatDoorSQM11
set_option linter.unusedVariables false
set_option linter.unusedSimpArgs false
namespace Go.Proofs.YthgfdnffnbclpaaGreatDoor.PAll
open Go.RowKit Go.Proofs.YthgfdnffnbclpaaGreatDoorW.PrintWords Go.Proofs.YthgfdnffnbclpaaGreatDoorW.PrintLast Go.Proofs.YthgfdnffnbclpaaGreatDoorW.PrintMore

/-! #### struct type 109 -/
structure S109 where
  f0 : ByteArray
  f1 : Int
  f2 : Bool
  f3 : Int
  f4 : Int
  f5 : Bool
def z109 : S109 := ⟨(⟨#[]⟩ : ByteArray), (0 : Int), false, (0 : Int), (0 : Int), false⟩
def k109 : Kd S109 := Kd.iso (Kd.pair Kd.string (Kd.pair (Kd.int .u8) (Kd.pair Kd.bool (Kd.pair (Kd.int .i64) (Kd.pair (Kd.int .i64) Kd.bool))))) (fun x : S109 => (x.f0, x.f1, x.f2, x.f3, x.f4, x.f5))
theorem k109_open {w : World} {x : S109} {cs : List Value} (h : k109.K w x cs) : cs = [.string x.f0, .int .u8 x.f1, .bool x.f2, .int .i64 x.f3, .int .i64 x.f4, .bool x.f5] := by
  obtain ⟨_, _, rfl, rfl, ⟨_, _, rfl, rfl, ⟨_, _, rfl, rfl, ⟨_, _, rfl, rfl, ⟨_, _, rfl, rfl, rfl⟩⟩⟩⟩⟩ := h
  exact rfl
def rd_T109 (xs : List S109) (i : Int) : S109 := xs.getD i.toNat z109
theorem at_T109 {w : World} {A : Option Addr} {n : Nat} {xs : List S109} (h : Kd.C k109 w A n xs) (i : Int) (h0 : 0 ≤ i) (h1 : i < n) : ∃ ad , A = some ad ∧ w.cell? (ad.add (i.toNat * 6)) = some (.string (rd_T109 xs i).f0) ∧ w.cell? ⟨(ad.add (i.toNat * 6)).block, (ad.add (i.toNat * 6)).off + 1, none⟩ = some (.int .u8 (rd_T109 xs i).f1) ∧ w.cell? ⟨(ad.add (i.toNat * 6)).block, (ad.add (i.toNat * 6)).off + 2, none⟩ = some (.bool (rd_T109 xs i).f2) ∧ w.cell? ⟨(ad.add (i.toNat * 6)).block, (ad.add (i.toNat * 6)).off + 3, none⟩ = some (.int .i64 (rd_T109 xs i).f3) ∧ w.cell? ⟨(ad.add (i.toNat * 6)).block, (ad.add (i.toNat * 6)).off + 4, none⟩ = some (.int .i64 (rd_T109 xs i).f4) ∧ w.cell? ⟨(ad.add (i.toNat * 6)).block, (ad.add (i.toNat * 6)).off + 5, none⟩ = some (.bool (rd_T109 xs i).f5) := by
  obtain ⟨ad, c, e, _, hK, hc0⟩ := Kd.C_get h z109 i h0 h1
  have hc : ∀ j u, c[j]? = some u → w.cell? (ad.add (i.toNat * 6 + j)) = some u := hc0
  obtain rfl := k109_open hK
  exact ⟨ad, e, hc 0 _ rfl, by rw [← add_field _ _ 1 (by omega)]; exact hc 1 _ rfl, by rw [← add_field _ _ 2 (by omega)]; exact hc 2 _ rfl, by rw [← add_field _ _ 3 (by omega)]; exact hc 3 _ rfl, by rw [← add_field _ _ 4 (by omega)]; exact hc 4 _ rfl, by rw [← add_field _ _ 5 (by omega)]; exact hc 5 _ rfl⟩

def rd_Ls (xs : List (List ByteArray)) (i : Int) : (List ByteArray) := xs.getD i.toNat ([] : List ByteArray)
theorem at_Ls {w : World} {A : Option Addr} {n : Nat} {xs : List (List ByteArray)} (h : Kd.C (Kd.slice 9 Kd.string) w A n xs) (i : Int) (h0 : 0 ≤ i) (h1 : i < n) : ∃ ad A0 c0, A = some ad ∧ w.cell? (ad.add i.toNat) = some (.slice A0 (rd_Ls xs i).length c0) ∧ (rd_Ls xs i).length ≤ c0 ∧ Kd.string.C w A0 (rd_Ls xs i).length (rd_Ls xs i) := by
  obtain ⟨ad, c, e, _, hK, hc0⟩ := Kd.C_get h ([] : List ByteArray) i h0 h1
  have hc : ∀ j u, c[j]? = some u → w.cell? (ad.add (i.toNat * 1 + j)) = some u := hc0
  obtain ⟨A0, c0, rfl, l0, g0⟩ := hK
  exact ⟨ad, A0, c0, e, by have hq := hc 0 _ rfl; rwa [Nat.mul_one, Nat.add_zero] at hq, l0, g0⟩

/-! #### struct type 105 -/
structure S105 where
  f0 : (List ByteArray)
  f1 : ByteArray
  f2 : (List ByteArray)
def z105 : S105 := ⟨([] : List ByteArray), (⟨#[]⟩ : ByteArray), ([] : List ByteArray)⟩
def k105 : Kd S105 := Kd.iso (Kd.pair (Kd.slice 9 Kd.string) (Kd.pair Kd.string (Kd.slice 9 Kd.string))) (fun x : S105 => (x.f0, x.f1, x.f2))
theorem k105_open {w : World} {x : S105} {cs : List Value} (h : k105.K w x cs) : ∃ A0 c0 A2 c2, cs = [.slice A0 x.f0.length c0, .string x.f1, .slice A2 x.f2.length c2] ∧ x.f0.length ≤ c0 ∧ Kd.string.C w A0 x.f0.length x.f0 ∧ x.f2.length ≤ c2 ∧ Kd.string.C w A2 x.f2.length x.f2 := by
  obtain ⟨_, _, rfl, ⟨A0, c0, rfl, l0, g0⟩, ⟨_, _, rfl, rfl, ⟨A2, c2, rfl, l2, g2⟩⟩⟩ := h
  exact ⟨A0, c0, A2, c2, rfl, l0, g0, l2, g2⟩
def rd_T105 (xs : List S105) (i : Int) : S105 := xs.getD i.toNat z105
theorem at_T105 {w : World} {A : Option Addr} {n : Nat} {xs : List S105} (h : Kd.C k105 w A n xs) (i : Int) (h0 : 0 ≤ i) (h1 : i < n) : ∃ ad A0 c0 A2 c2, A = some ad ∧ w.cell? (ad.add (i.toNat * 3)) = some (.slice A0 (rd_T105 xs i).f0.length c0) ∧ w.cell? ⟨(ad.add (i.toNat * 3)).block, (ad.add (i.toNat * 3)).off + 1, none⟩ = some (.string (rd_T105 xs i).f1) ∧ w.cell? ⟨(ad.add (i.toNat * 3)).block, (ad.add (i.toNat * 3)).off + 2, none⟩ = some (.slice A2 (rd_T105 xs i).f2.length c2) ∧ (rd_T105 xs i).f0.length ≤ c0 ∧ Kd.string.C w A0 (rd_T105 xs i).f0.length (rd_T105 xs i).f0 ∧ (rd_T105 xs i).f2.length ≤ c2 ∧ Kd.string.C w A2 (rd_T105 xs i).f2.length (rd_T105 xs i).f2 := by
  obtain ⟨ad, c, e, _, hK, hc0⟩ := Kd.C_get h z105 i h0 h1
  have hc : ∀ j u, c[j]? = some u → w.cell? (ad.add (i.toNat * 3 + j)) = some u := hc0
  obtain ⟨A0, c0, A2, c2, rfl, l0, g0, l2, g2⟩ := k105_open hK
  exact ⟨ad, A0, c0, A2, c2, e, hc 0 _ rfl, by rw [← add_field _ _ 1 (by omega)]; exact hc 1 _ rfl, by rw [← add_field _ _ 2 (by omega)]; exact hc 2 _ rfl, l0, g0, l2, g2⟩
end Go.Proofs.YthgfdnffnbclpaaGreatDoor.PAll
namespace Go.Proofs.YthgfdnffnbclpaaGreatDoor
open Go.ChangeShapes Go.WideShapes Go.ChangeAt Go.Deep Go.RowKit
open Go.Proofs.YthgfdnffnbclpaaGreatDoorW.PrintWords Go.Proofs.YthgfdnffnbclpaaGreatDoorW.PrintLast Go.Proofs.YthgfdnffnbclpaaGreatDoorW.PrintMore Go.Proofs.YthgfdnffnbclpaaGreatDoor.PAll
section
variable {H : Type}
theorem bulk_pos (d : DataW H) : 1 ≤ Rows.uptoBulk d := by
  cases d with
  | lit l => cases l <;> simp [Rows.uptoBulk]
  | _ => simp [Rows.uptoBulk]
theorem bulk_len : ∀ l : List (DataW H), l.length ≤ Rows.uptoBulkAll l
  | [] => Nat.le_refl _
  | d :: r => by
    have h1 := bulk_len r
    have h2 := bulk_pos d
    simp only [Rows.uptoBulkAll, List.length_cons]
    omega
theorem bulk_mem {d : DataW H} : ∀ {l : List (DataW H)}, d ∈ l → Rows.uptoBulk d ≤ Rows.uptoBulkAll l
  | [], h => by cases h
  | e :: r, h => by
    simp only [Rows.uptoBulkAll]
    rcases List.mem_cons.1 h with rfl | h
    · omega
    · have := bulk_mem h
      omega
end
section
variable {H : Type} (enc : TypeId × Value → H) (w : World)
/-- What reads at type t is of the kind d, and ok for its bulk. -/
def OpB {α : Type} (d : Kd α) (t : TypeId) (ok : α → Nat → Prop) : Prop := ∀ n cs y, DataW.trod enc Tryz.prog w 0 (fun _ => true) true n t cs = some y → ∃ x, d.K w x cs ∧ ok x (Rows.uptoBulk y.1)
variable {enc w}
theorem OpB.mono {α : Type} {d : Kd α} {t : TypeId} {ok ok' : α → Nat → Prop} (h : OpB enc w d t ok) (hm : ∀ x b, ok x b → ok' x b) : OpB enc w d t ok' := fun n cs y hy => by
  obtain ⟨x, h1, h2⟩ := h n cs y hy
  exact ⟨x, h1, hm _ _ h2⟩
theorem opb_of {α : Type} {d : Kd α} {t : TypeId} {ok : α → Prop} (h : OpK enc w d t ok) : OpB enc w d t (fun x _ => ok x) := fun n cs y hy => h n cs y hy
theorem opb_slice {α : Type} {d : Kd α} {t e : TypeId} {ok : α → Nat → Prop} (ht : Tryz.prog.underlying t = some (.slice e)) (hsz : Tryz.prog.cellsOf e = d.sz) (hd : OpB enc w d e ok) (hm : ∀ x b c, b ≤ c → ok x b → ok x c) :
    OpB enc w (Kd.slice e d) t (fun xs b => xs.length ≤ maxLen ∧ xs.length ≤ b ∧ ∀ x ∈ xs, ok x b) := fun n cs y h => by
  rcases open_slice ht h with ⟨hcs, _⟩ | ⟨a, len, cap, m, n', D, Pl, hcs, hb, hl, hmx, hmm, hy, hi⟩
  · exact ⟨[], ⟨none, 0, hcs, Nat.le_refl _, ⟨rfl, by simp, fun h => by simp at h⟩⟩, by simp, by simp, fun x hx => by cases hx⟩
  · have hmc : m = cap := by simpa using hmm
    have hbk : len ≤ Rows.uptoBulk y.1 ∧ ∀ i, i < len → Rows.uptoBulk (D i) ≤ Rows.uptoBulk y.1 := by
      rw [hy]
      simp only [Rows.uptoBulk]
      have h1 := bulk_len ((List.range len).map D)
      rw [List.length_map, List.length_range] at h1
      refine ⟨by omega, fun i hil => ?_⟩
      have h2 := bulk_mem (d := D i) (l := (List.range len).map D) (List.mem_map.2 ⟨i, List.mem_range.2 hil, rfl⟩)
      omega
    have key : ∀ i, i < len → ∃ (x : α) (c : List Value), d.K w x c ∧ ok x (Rows.uptoBulk y.1) ∧ ∀ j u, c[j]? = some u → w.cell? (a.add (i * d.sz + j)) = some u := fun i hil => by
      obtain ⟨cs', hc, ht'⟩ := hi i (by omega)
      rw [hsz] at hc
      obtain ⟨x, hK, ho⟩ := hd _ _ _ ht'
      obtain ⟨_, hcl, hat⟩ := World.cells?_some hc
      refine ⟨x, cs', hK, hm _ _ _ (hbk.2 i hil) ho, fun j u hj => ?_⟩
      have hjl : j < d.sz := by rw [← hcl]; exact (List.getElem?_eq_some_iff.1 hj).1
      rw [← Go.Deep.add_add, hat j hjl, hj]
    by_cases h0 : len = 0
    · subst h0
      exact ⟨[], ⟨some a, cap, hcs, Nat.zero_le _, ⟨rfl, by simp, fun h => by simp at h⟩⟩, by simp, by simp, fun x hx => by cases hx⟩
    obtain ⟨x0, _⟩ := key 0 (by omega)
    let f : Nat → α := fun i => if h : i < len then Classical.choose (key i h) else x0
    have hf : ∀ i, i < len → ∃ c, d.K w (f i) c ∧ ok (f i) (Rows.uptoBulk y.1) ∧ ∀ j u, c[j]? = some u → w.cell? (a.add (i * d.sz + j)) = some u := by
      intro i h
      have := Classical.choose_spec (key i h)
      simp only [f, dif_pos h]
      exact this
    have hlen : ((List.range len).map f).length = len := by simp
    refine ⟨(List.range len).map f, ⟨some a, cap, by rw [hlen]; exact hcs, by rw [hlen]; exact hl, ⟨rfl, ?_, fun _ => ⟨a, rfl, ?_⟩⟩⟩, ?_, ?_, ?_⟩
    · rw [hlen]; have : maxLen = 9223372036854775807 := by decide
      omega
    · intro j x hj
      have hjl : j < len := by
        have := (List.getElem?_eq_some_iff.1 hj).1
        simpa using this
      have : x = f j := by
        rw [List.getElem?_map, List.getElem?_range hjl] at hj
        simpa using hj.symm
      subst this
      obtain ⟨c, h1, _, h3⟩ := hf j hjl
      exact ⟨c, d.K_len h1, h1, h3⟩
    · rw [hlen]; omega
    · rw [hlen]; exact hbk.1
    · intro x hx
      obtain ⟨i, hi', rfl⟩ := List.mem_map.1 hx
      obtain ⟨c, _, h2, _⟩ := hf i (List.mem_range.1 hi')
      exact h2
/-- A struct of one-cell fields, field by field, with its bulk. -/
theorem opb_fields {e : TypeId} {fs : Array Field} (he : Tryz.prog.underlying e = some (.struct fs)) (hone : oneCellFields Tryz.prog fs = true) {n : Nat} {cs : List Value} {y : DataW H × List MemPlace}
    (h : DataW.trod enc Tryz.prog w 0 (fun _ => true) true n e cs = some y) (hcl : cs.length = fs.size) : ∀ (j : Nat) (f : Field), fs[j]? = some f → ∃ (v : Value) (m : Nat) (z : DataW H × List MemPlace), cs[j]? = some v ∧ DataW.trod enc Tryz.prog w 0 (fun _ => true) true m f.type [v] = some z ∧ Rows.uptoBulk z.1 ≤ Rows.uptoBulk y.1 := by
  obtain ⟨ys, n', hn', hy, hlen, hyl, hf⟩ := DataW.trod_struct he h
  intro j f hj
  obtain ⟨ho, hk⟩ := hone_of hone j f hj
  have hjl : j < fs.size := (Array.getElem?_eq_some_iff.1 hj).1
  have hv : cs[j]? = some (cs[j]'(by omega)) := List.getElem?_eq_getElem (by omega)
  have h1 := hf j f hj
  rw [ho, hk] at h1
  have hone' : (cs.drop j).take 1 = [cs[j]'(by omega)] := by
    rw [List.drop_eq_getElem_cons (by omega)]
    rfl
  rw [hone'] at h1
  have hys : ys[j]? = some (ys[j]'(by omega)) := List.getElem?_eq_getElem (by omega)
  refine ⟨_, _, _, hv, h1.trans hys, ?_⟩
  rw [hy]
  simp only [Rows.uptoBulk]
  have := bulk_mem (d := (ys[j]'(by omega)).1) (l := ys.map (·.1)) (List.mem_map.2 ⟨_, List.getElem_mem _, rfl⟩)
  omega
end
section
variable {H : Type} {enc : TypeId × Value → H} {w : World}
theorem opbInts : OpB enc w (Kd.slice 3 (Kd.int .i64)) 70 (fun l b => (l.length ≤ maxLen ∧ ∀ x ∈ l, (Lit.int .i64 x).wf = true) ∧ l.length ≤ b) := (opb_slice (t := 70) (e := 3) Tryz.underlying70 (by kernel_rfl) (opb_of (opk_int (k := .i64) Tryz.underlying3)) (fun _ _ _ _ h => h)).mono (fun x b h => ⟨⟨h.1, h.2.2⟩, h.2.1⟩)
theorem opb75 : OpB enc w k75 75 (fun r b => (r.f0.length ≤ maxLen ∧ ∀ x ∈ r.f0, (Lit.int .i64 x).wf = true) ∧ r.f0.length ≤ b) := fun n cs y h => by
  have hl : cs.length = 3 := (trod_len Tryz.underlying75 h).trans (by kernel_rfl)
  have hf := opb_fields Tryz.underlying75 (by kernel_rfl) h (by rw [hl]; rfl)
  obtain ⟨v0, m0, z0, c0, t0, b0⟩ := hf 0 _ rfl
  obtain ⟨v1, m1, z1, c1, t1, b1⟩ := hf 1 _ rfl
  obtain ⟨v2, m2, z2, c2, t2, b2⟩ := hf 2 _ rfl
  obtain ⟨x0, ⟨A0, k0, e0, l0, g0⟩, o0, q0⟩ := opbInts _ _ _ t0
  obtain ⟨x1, e1, _, g1⟩ := DataW.trod_int (t := 3) Tryz.underlying3 t1
  obtain ⟨x2, e2, _, g2⟩ := DataW.trod_int (t := 3) Tryz.underlying3 t2
  match cs, hl, c0, c1, c2 with
  | [a, b, c], _, c0, c1, c2 =>
    simp at c0 c1 c2 e0 e1 e2
    subst c0 c1 c2 e0 e1 e2
    exact ⟨⟨x0, x1, x2⟩, k75_mk w _ l0 g0, o0, by show x0.length ≤ _; omega⟩
def bigT (t : S49) (b : Nat) : Prop := t.f1.length ≤ b ∧ (t.f2.length ≤ b ∧ ∀ key ∈ t.f2, key.length ≤ b) ∧ (t.f3.length ≤ b ∧ ∀ r ∈ t.f3, r.f0.length ≤ b) ∧ t.f4.length ≤ b
theorem opb72 : OpB enc w k49 72 (fun t b => okT t ∧ bigT t b) := fun n cs y h => by
  have hl : cs.length = 5 := (trod_len Tryz.underlying72 h).trans (by kernel_rfl)
  have hf := opb_fields Tryz.underlying72 (by kernel_rfl) h (by rw [hl]; rfl)
  obtain ⟨v0, m0, z0, c0, t0, b0⟩ := hf 0 _ rfl
  obtain ⟨v1, m1, z1, c1, t1, b1⟩ := hf 1 _ rfl
  obtain ⟨v2, m2, z2, c2, t2, b2⟩ := hf 2 _ rfl
  obtain ⟨v3, m3, z3, c3, t3, b3⟩ := hf 3 _ rfl
  obtain ⟨v4, m4, z4, c4, t4, b4⟩ := hf 4 _ rfl
  obtain ⟨x0, e0, _, g0⟩ := DataW.trod_string (t := 9) Tryz.underlying9 t0
  obtain ⟨x1, ⟨A1, k1, e1, l1, g1⟩, o1, q1, p1⟩ := opb_slice (t := 67) (e := 83) Tryz.underlying67 (by kernel_rfl) (opb_of opk78) (fun _ _ _ _ h => h) _ _ _ t1
  obtain ⟨x2, ⟨A2, k2, e2, l2, g2⟩, o2, q2, p2⟩ := opb_slice (t := 68) (e := 70) Tryz.underlying68 (by kernel_rfl) opbInts (fun _ _ _ h q => ⟨q.1, Nat.le_trans q.2 h⟩) _ _ _ t2
  obtain ⟨x3, ⟨A3, k3, e3, l3, g3⟩, o3, q3, p3⟩ := opb_slice (t := 69) (e := 75) Tryz.underlying69 (by kernel_rfl) opb75 (fun _ _ _ h q => ⟨q.1, Nat.le_trans q.2 h⟩) _ _ _ t3
  obtain ⟨x4, ⟨A4, k4, e4, l4, g4⟩, o4, q4⟩ := opbInts _ _ _ t4
  match cs, hl, c0, c1, c2, c3, c4 with
  | [a, b, c, d, e], _, c0, c1, c2, c3, c4 =>
    simp at c0 c1 c2 c3 c4 e0 e1 e2 e3 e4
    subst c0 c1 c2 c3 c4 e0 e1 e2 e3 e4
    refine ⟨⟨x0, x1, x2, x3, x4⟩, k49_mk w _ l1 g1 l2 g2 l3 g3 l4 g4, ⟨g0, ⟨o1, p1⟩, ⟨o2, fun k hk => (p2 k hk).1⟩, ⟨o3, fun r hr => (p3 r hr).1⟩, o4⟩, ?_, ⟨?_, fun k hk => ?_⟩, ⟨?_, fun r hr => ?_⟩, ?_⟩
    · show x1.length ≤ _; omega
    · show x2.length ≤ _; omega
    · have := (p2 k hk).2; omega
    · show x3.length ≤ _; omega
    · have := (p3 r hr).2; omega
    · show x4.length ≤ _; omega
theorem bigT_mono {t : S49} {b c : Nat} (h : b ≤ c) (q : bigT t b) : bigT t c := by
  obtain ⟨h1, ⟨h2, h3⟩, ⟨h4, h5⟩, h6⟩ := q
  exact ⟨by omega, ⟨by omega, fun k hk => by have := h3 k hk; omega⟩, ⟨by omega, fun k hk => by have := h5 k hk; omega⟩, by omega⟩
set_option maxRecDepth 100000 in
theorem open_argB {α : Type} {d : Kd α} {t e : TypeId} {ok : α → Nat → Prop} (ht : Tryz.prog.underlying t = some (.slice e)) (hsz : Tryz.prog.cellsOf e = d.sz) (hd : OpB enc w d e ok) (hm : ∀ x b c, b ≤ c → ok x b → ok x c) {v : Value} {x : DataW H} {p : List MemPlace} {base : Nat}
    (hv : Value.okWide Tryz.prog w .any base t v) (h : DataW.Trod enc Tryz.prog w 0 (fun _ => true) true t v x p) : ∃ (A : Option Addr) (cap : Nat) (l : List α), v = .slice A l.length cap ∧ l.length ≤ cap ∧ d.C w A l.length l ∧ l.length ≤ maxLen ∧ l.length ≤ Rows.uptoBulk x ∧ ∀ z ∈ l, ok z (Rows.uptoBulk x) := by
  obtain ⟨A0, len0, cap0, rfl⟩ := okWide_slice ht hv
  obtain ⟨fuel, hf⟩ := h
  obtain ⟨l, ⟨A, c, hcs, hl, hC⟩, h1, h2, h3⟩ := opb_slice ht hsz hd hm _ _ _ hf
  have hcs' : (Value.slice A0 len0 cap0) = .slice A l.length c := by simpa [Value.cells] using hcs
  exact ⟨A, c, l, hcs', hl, hC, h1, h2, h3⟩
set_option maxRecDepth 100000 in
theorem open_schemeB {v : Value} {x : DataW H} {p : List MemPlace} {base : Nat} (hv : Value.okWide Tryz.prog w .any base 23 v) (h : DataW.Trod enc Tryz.prog w 0 (fun _ => true) true 23 v x p) :
    ∃ (A : Option Addr) (cap : Nat) (l : List S49), v = .slice A l.length cap ∧ l.length ≤ cap ∧ k49.C w A l.length l ∧ (∀ x ∈ l, okT x) ∧ (Rows.uptoBulk x ≤ 1048576 → smallSch l) := by
  obtain ⟨A, c, l, h1, h2, h3, _, h5, h6⟩ := open_argB Tryz.underlying23 (by kernel_rfl) opb72 (fun _ _ _ h q => ⟨q.1, bigT_mono h q.2⟩) hv h
  refine ⟨A, c, l, h1, h2, h3, fun z hz => (h6 z hz).1, fun hb => ⟨by omega, fun z hz => ?_⟩⟩
  obtain ⟨g1, ⟨g2, g3⟩, ⟨g4, g5⟩, g6⟩ := bigT_mono hb (h6 z hz).2
  exact ⟨by omega, ⟨by omega, fun k hk => by have := g3 k hk; omega⟩, ⟨by omega, fun k hk => by have := g5 k hk; omega⟩, by omega⟩
theorem opbRow : OpB enc w (Kd.slice 87 k64) 89 (fun l b => okRow l ∧ l.length ≤ b) := (opb_slice (t := 89) (e := 87) Tryz.underlying89 (by kernel_rfl) (opb_of opk64) (fun _ _ _ _ h => h)).mono (fun x b h => ⟨⟨h.1, h.2.2⟩, h.2.1⟩)
set_option maxRecDepth 100000 in
theorem open_rowsB {v : Value} {x : DataW H} {p : List MemPlace} {base : Nat} (hv : Value.okWide Tryz.prog w .any base 41 v) (h : DataW.Trod enc Tryz.prog w 0 (fun _ => true) true 41 v x p) :
    ∃ (A : Option Addr) (cap : Nat) (l : List (List S64)), v = .slice A l.length cap ∧ l.length ≤ cap ∧ (Kd.slice 87 k64).C w A l.length l ∧ (∀ row ∈ l, okRow row) ∧ (Rows.uptoBulk x ≤ 1048576 → smallRows l) := by
  obtain ⟨A, c, l, h1, h2, h3, _, h5, h6⟩ := open_argB Tryz.underlying41 (by kernel_rfl) opbRow (fun _ _ _ h q => ⟨q.1, Nat.le_trans q.2 h⟩) hv h
  exact ⟨A, c, l, h1, h2, h3, fun z hz => (h6 z hz).1, fun hb => ⟨by omega, fun z hz => by have := (h6 z hz).2; omega⟩⟩
set_option maxRecDepth 100000 in
theorem open_dataB {v : Value} {x : DataW H} {p : List MemPlace} {base : Nat} (hv : Value.okWide Tryz.prog w .any base 25 v) (h : DataW.Trod enc Tryz.prog w 0 (fun _ => true) true 25 v x p) :
    ∃ (A : Option Addr) (cap : Nat) (l : List (List (List S64))), v = .slice A l.length cap ∧ l.length ≤ cap ∧ (Kd.slice 89 (Kd.slice 87 k64)).C w A l.length l ∧ (∀ rows ∈ l, rows.length ≤ maxLen ∧ ∀ row ∈ rows, okRow row) ∧ (Rows.uptoBulk x ≤ 1048576 → smallData l) := by
  obtain ⟨A, c, l, h1, h2, h3, _, h5, h6⟩ := open_argB Tryz.underlying25 (by kernel_rfl) (opb_slice (t := 41) (e := 89) Tryz.underlying41 (by kernel_rfl) opbRow (fun _ _ _ h q => ⟨q.1, Nat.le_trans q.2 h⟩)) (fun _ _ _ h q => ⟨q.1, by omega, fun z hz => ⟨(q.2.2 z hz).1, by have := (q.2.2 z hz).2; omega⟩⟩) hv h
  exact ⟨A, c, l, h1, h2, h3, fun z hz => ⟨(h6 z hz).1, fun row hr => ((h6 z hz).2.2 row hr).1⟩, fun hb => ⟨by omega, fun z hz => ⟨by have := (h6 z hz).2.1; omega, fun row hr => by have := ((h6 z hz).2.2 row hr).2; omega⟩⟩⟩
end
end Go.Proofs.YthgfdnffnbclpaaGreatDoor
namespace Go
variable {H : Type} {enc : TypeId × Value → H}
/-- The wrap by size: a condition of the specification and a condition of my own on the world. -/
theorem returnsInHanded_of_cond_all {a : Assume} {C : Checked} {os : Os} {f : FuncId} {fn : Func} {s : OpenSpec} {k : (H : Type) → List (DataW H) → Bool} (hk : s.cond = some k) {F : Stop.Interp} {conds : List PathCond} {apart fresh handsOn again : Bool} {X : World → Array Value → Prop}
    (hX : ∀ (w w' : World) (args : Array Value), w.heap = w'.heap → X w args → X w' args)
    (own : ownKnob C.prog.godebug = none) (started : os.Started) (noInit : C.prog.inits.idxOf? f = none) (hfn : C.prog.funcs[f]? = some fn)
    (witness : ∃ (w : World) (tape : Tape) (i : Input), w.os = os ∧ (w.forCall tape i).Shaped C.prog ∧ i.vars = [] ∧ Input.okWide C.prog (w.forCall tape i) .any w.heap.size f i ∧
      ((s.pre enc C.prog fn conds apart (w.forCall tape i).memory i.args ∧ X (w.forCall tape i).memory i.args) ∧ sizedMet enc C.prog fn s apart (w.forCall tape i).memory i.args) ∧ a.holds C.prog (lone (Frame.enter C.prog f i.args .normal) [] (w.forCall tape i)))
    (contract : ∀ (W : World) (base : Nat) (args : Array Value) (ds gs : List (DataW H)) (before : List MemPlace),
      (∀ (j : Nat) t v, fn.params[j]? = some t → args[j]? = some v → Value.okWide C.prog W .any base t v) →
      DataW.Whole enc C.prog fn.params.toList s.vars apart W args.toList ds gs before →
      conds.all (PathCond.test C.prog ⟨fn.params.toList, ds, s.bare.plain.varTypes C.prog, gs⟩) = true → k H (ds ++ gs) = true → X W args → W.ShapedOpen C.prog →
      a.holds C.prog (lone (Frame.enter C.prog f args .normal) [] W) →
      Calls C.prog f args W fun e W' => ∃ v, e = .returned v ∧ (s.at F).post enc C.prog fn apart fresh handsOn again W args v W') :
    ReturnsInHanded a C os f .any (fun w args => (s.pre enc C.prog fn conds apart w args ∧ X w args) ∧ sizedMet enc C.prog fn s apart w args) ((s.at F).post enc C.prog fn apart fresh handsOn again) := by
  refine returnsInHanded_of_calls own started noInit witness ?_
  intro w tape i _ hsh _ hok hpre hholds
  obtain ⟨_, _, _, fn', hfn', _, _, _, _, hval⟩ := hok
  have e : fn' = fn := Option.some.inj (hfn'.symm.trans hfn)
  subst e
  obtain ⟨⟨hp, hx⟩, _⟩ := hpre
  obtain ⟨ds, gs, before, hw, hc, hkk⟩ := (OpenSpec.pre_some hk conds apart _ _).1 hp
  have hw' := DataW.Whole.of_heap (w' := w.forCall tape i) (by rfl) hw
  refine (contract (w.forCall tape i) w.heap.size i.args ds gs before hval hw' hc hkk (hX _ _ _ (by rfl) hx) hsh hholds).mono fun e W' ⟨v, he, hp⟩ => ?_
  subst he
  exact ChangeSpec.post_blind hp
/-- The witness by size. -/
theorem OpenSpec.witness_all {C : Checked} {os : Os} {f : FuncId} {fn : Func} {s : OpenSpec} {k : (H : Type) → List (DataW H) → Bool} (hk : s.cond = some k) {conds : List PathCond} {apart : Bool} {X : World → Array Value → Prop} (modest : Bool) (w0 : World) (args : Array Value) (fuel : Nat) (hos : w0.os = os)
    (hsh : (w0.forCall (fun _ _ => 0) ⟨#[], args, []⟩).Shaped C.prog)
    (hok : Input.okWideB C.prog (w0.forCall (fun _ _ => 0) ⟨#[], args, []⟩) f ⟨#[], args, []⟩ = true)
    {x : List (DataW H) × List (DataW H) × List MemPlace} (hx : DataW.whole enc C.prog (w0.forCall (fun _ _ => 0) ⟨#[], args, []⟩).memory fn.params.toList s.vars apart args.toList fuel = some x)
    (hconds : conds.all (PathCond.test C.prog ⟨fn.params.toList, x.1, s.bare.plain.varTypes C.prog, x.2.1⟩) = true) (hkk : k H (x.1 ++ x.2.1) = true)
    (hsz : s.bare.sizedB enc C.prog fn apart (w0.forCall (fun _ _ => 0) ⟨#[], args, []⟩).memory args fuel = true)
    (hX : X (w0.forCall (fun _ _ => 0) ⟨#[], args, []⟩).memory args) :
    ∃ (w : World) (tape : Tape) (i : Input), w.os = os ∧ (w.forCall tape i).Shaped C.prog ∧ i.vars = [] ∧ Input.okWide C.prog (w.forCall tape i) .any w.heap.size f i ∧
      ((s.pre enc C.prog fn conds apart (w.forCall tape i).memory i.args ∧ X (w.forCall tape i).memory i.args) ∧ sizedMet enc C.prog fn s apart (w.forCall tape i).memory i.args) ∧ ({ modest := modest } : Assume).holds C.prog (lone (Frame.enter C.prog f i.args .normal) [] (w.forCall tape i)) :=
  ⟨w0, fun _ _ => 0, ⟨#[], args, []⟩, hos, hsh, (Input.okWide_of_okWideB (base := 0) hok).1, (Input.okWide_of_okWideB hok).2,
    ⟨⟨(OpenSpec.pre_some hk conds apart _ _).2 ⟨x.1, x.2.1, x.2.2, DataW.Whole_of_whole hx, hconds, hkk⟩, hX⟩, sizedMet_of_sizedB hsz⟩, by
    simp only [Assume.holds]
    exact ⟨by simp, by simp, fun _ => Modest.zero, by simp, by simp⟩⟩
end Go
namespace Go.Proofs.YthgfdnffnbclpaaGreatDoor.PAll
open Go.RowKit Go.Proofs.YthgfdnffnbclpaaGreatDoorW.PrintWords Go.Proofs.YthgfdnffnbclpaaGreatDoorW.PrintLast Go.Proofs.YthgfdnffnbclpaaGreatDoorW.PrintMore

end Go.Proofs.YthgfdnffnbclpaaGreatDoor.PAll
namespace Go.Proofs.YthgfdnffnbclpaaGreatDoor.PAll
open Go.RowKit Go.Proofs.YthgfdnffnbclpaaGreatDoorW.PrintWords Go.Proofs.YthgfdnffnbclpaaGreatDoorW.PrintLast Go.Proofs.YthgfdnffnbclpaaGreatDoorW.PrintMore

def refFromP (s : List S49) (d : Data) : Nat → Nat → Option Bool
  | 0, _ => some true
  | g + 1, m => (refRefsP s d m (rd_T49 s m).f3).bind fun b => if b = true then refFromP s d g (m + 1) else some false
end Go.Proofs.YthgfdnffnbclpaaGreatDoor.PAll
namespace Go.Proofs.YthgfdnffnbclpaaGreatDoor.PAll
open Go.RowKit Go.Proofs.YthgfdnffnbclpaaGreatDoorW.PrintWords Go.Proofs.YthgfdnffnbclpaaGreatDoorW.PrintLast Go.Proofs.YthgfdnffnbclpaaGreatDoorW.PrintMore

theorem errs_fit {t : S49} : ∀ {rows : Rows}, errsP t rows = 0 → ∀ row ∈ rows, row.length = t.f1.length
  | [], _, row, h => by cases h
  | x :: r, h, row, hm => by
    rw [errsP] at h
    split at h
    · rename_i q
      rcases List.mem_cons.1 hm with rfl | hm
      · unfold fitsRowP at q
        split at q
        · assumption
        · cases q
      · exact errs_fit h row hm
    · rename_i q; exact absurd h q
theorem rd13_set {d : Data} {n m : Nat} {x : Rows} (hm : m < d.length) : rd_L13 (d.set n x) (m : Int) = if m = n then x else rd_L13 d (m : Int) := by
  unfold rd_L13
  rw [List.getD_eq_getElem?_getD, List.getD_eq_getElem?_getD, Int.toNat_natCast, List.getElem?_set]
  by_cases e : n = m
  · subst e; simp [hm]
  · rw [if_neg e, if_neg (fun h => e h.symm)]
theorem set_fit {s : List S49} {d : Data} (h : dataB s d = true) {n : Nat} {x : Rows} (hx : ∀ row ∈ x, row.length = (rd_T49 s (n : Int)).f1.length) : ∀ m, m < s.length → ∀ row ∈ rd_L13 (d.set n x) (m : Int), row.length = (rd_T49 s (m : Int)).f1.length := by
  intro m hm row hr
  obtain ⟨_, hl, _, _⟩ := dataB_facts h
  rw [rd13_set (by omega)] at hr
  by_cases e : m = n
  · rw [if_pos e] at hr; rw [e]; exact hx row hr
  · rw [if_neg e] at hr; exact fit_rows h m hm row hr

def insAtB (s : List S49) (d : Data) (n : Nat) (rows : Rows) : Data × Int :=
  if errsP (rd_T49 s n) rows = 0 then
    if ((rd_L13 d n).length : Int) + (rows.length : Int) > 1000 then ([], 72)
    else if ((rd_T49 s n).f2.all fun k => KB k [] (rd_L13 d n ++ rows)) = true then
      if (rd_T49 s n).f3.all (refHB s (d.set n (rd_L13 d n ++ rows)) n) = true then (d.set n (rd_L13 d n ++ rows), 0) else ([], 77)
    else ([], 76)
  else ([], errsP (rd_T49 s n) rows)
def insB (s : List S49) (d : Data) (nm : ByteArray) (rows : Rows) : Data × Int :=
  if dataB s d = true then if (findB s nm).2 = true then insAtB s d (findB s nm).1.toNat rows else ([], 71) else ([], 1)
theorem new_fit {s : List S49} {d : Data} (h : dataB s d = true) {n : Nat} (hn : n < s.length) {rows : Rows} (he : errsP (rd_T49 s n) rows = 0) : ∀ row ∈ rd_L13 d (n : Int) ++ rows, row.length = (rd_T49 s (n : Int)).f1.length := by
  intro row hr
  rcases List.mem_append.1 hr with hr | hr
  · exact fit_rows h n hn row hr
  · exact errs_fit he row hr
theorem insert_is (s : List S49) (hw : ∀ t ∈ s, wfT t) (d : Data) (nm : ByteArray) (rows : Rows) : Ev (fun k => insertP k s d nm rows) (insB s d nm rows) := by
  obtain ⟨K, hK⟩ := data_is s hw d
  refine ⟨K, fun k hk => ?_⟩
  have h := hK k hk
  simp only at h
  show insertP k s d nm rows = _
  unfold insertP insB
  rw [h, Option.bind_some]
  cases hd : dataB s d with
  | false => rfl
  | true =>
    obtain ⟨hv, hl, hf, _⟩ := dataB_facts hd
    rw [if_pos rfl, if_pos rfl]
    obtain ⟨f1, f2⟩ := find_pos hv nm
    by_cases q : 0 ≤ findP nm 0 s
    · have hr : findP nm 0 s < (s.length : Int) := by have := findP_range nm s 0; omega
      rw [if_neg (by omega), f1 q, if_pos rfl]
      show _ = some (insAtB s d (findP nm 0 s).toNat rows)
      generalize findP nm 0 s = ni at *
      obtain ⟨n, rfl⟩ : ∃ n : Nat, ni = (n : Int) := ⟨ni.toNat, by omega⟩
      rw [Int.toNat_natCast]
      have hn : n < s.length := by omega
      unfold insAtB
      by_cases he : errsP (rd_T49 s n) rows = 0
      · rw [if_pos he, if_pos he]
        by_cases q : ((rd_L13 d n).length : Int) + (rows.length : Int) > 1000
        · rw [if_pos q, if_pos q]
        · have hnew := new_fit hd hn he
          rw [if_neg q, if_neg q, (keys_is _ _ (key_ok hv n hn hnew)).1, Option.bind_some, (refs_is s (d.set n (rd_L13 d n ++ rows)) n _ (ref_ok hv (by rw [List.length_set]; exact hl) (set_fit hd hnew) n hn)).1, Option.bind_some]
          split <;> first | rfl | (split <;> rfl)
      · rw [if_neg he, if_neg he]
    · rw [if_pos (by omega), f2 q]; rfl

/-! #### Delete -/
def fromB (s : List S49) (d : Data) : Nat → Nat → Bool
  | 0, _ => true
  | g + 1, m => ((rd_T49 s m).f3.all (refHB s d m)) && fromB s d g (m + 1)
def delAtB (s : List S49) (d : Data) (n : Nat) (gone : List Bool) : Data × Int :=
  if gone.length = (rd_L13 d n).length then
    if fromB s (d.set n (leftP (rd_L13 d n) gone)) (s.length - (n + 1)) (n + 1) = true then (d.set n (leftP (rd_L13 d n) gone), 0) else ([], 77)
  else ([], 78)
def delB (s : List S49) (d : Data) (nm : ByteArray) (gone : List Bool) : Data × Int :=
  if dataB s d = true then if (findB s nm).2 = true then delAtB s d (findB s nm).1.toNat gone else ([], 71) else ([], 1)
theorem from_is (s : List S49) (d : Data) (hok : ∀ m, m < s.length → ∀ r ∈ (rd_T49 s (m : Int)).f3, RefOk s d m r) : ∀ (g m : Nat), m + g = s.length → refFromP s d g m = some (fromB s d g m) ∧ refsFromP s d m (s.drop m) = some (fromB s d g m) := by
  intro g
  induction g with
  | zero => intro m hm; rw [List.drop_eq_nil_of_le (by omega)]; exact ⟨rfl, rfl⟩
  | succ g ih =>
    intro m hm
    obtain ⟨h1, h2⟩ := ih (m + 1) (by omega)
    obtain ⟨r1, r2⟩ := refs_is s d m _ (hok m (by omega))
    rw [refFromP, List.drop_eq_getElem_cons (by omega : m < s.length), refsFromP, ← rdT49 (by omega : m < s.length), r1, r2, Option.bind_some, Option.bind_some, h1, h2, fromB]
    cases (rd_T49 s (m : Int)).f3.all (refHB s d m) <;> exact ⟨rfl, rfl⟩
theorem holdsB_at (s : List S49) (d : Data) : ∀ (g i : Nat), i + g = s.length → holdsB s d g i = true → ∀ j, i ≤ j → j < s.length → (rd_T49 s (j : Int)).f3.all (refHB s d j) = true := by
  intro g
  induction g with
  | zero => intro i hi _ j h1 h2; omega
  | succ g ih =>
    intro i hi h j h1 h2
    rw [holdsB] at h
    simp only [Bool.and_eq_true] at h
    by_cases e : j = i
    · rw [e]; exact h.2.1
    · exact ih (i + 1) (by omega) h.2.2 j (by omega) h2
theorem RB_sub {cols key : List Int} {others rows rows' : Rows} (h : RB cols key others rows = true) (hs : ∀ x ∈ rows', x ∈ rows) : RB cols key others rows' = true := by
  unfold RB at h ⊢
  rw [List.all_eq_true] at h ⊢
  exact fun x hx => h x (hs x hx)
theorem ref_before {s : List S49} {n : Nat} (hv : validB s = true) (hn : n < s.length) {r : S75} (hr : r ∈ (rd_T49 s (n : Int)).f3) : 0 ≤ r.f1 ∧ r.f1 < (n : Int) := by
  have hb := (tabB_facts ((validB_at hv).2 n hn)).2.2 r hr
  have hlen : (s.take n).length = n := by rw [List.length_take]; omega
  unfold refB at hb
  rw [hlen] at hb
  split at hb
  · cases hb
  split at hb
  · cases hb
  omega
theorem del_before {s : List S49} {d : Data} (h : dataB s d = true) {n : Nat} (hn : n < s.length) (left : Rows) (hsub : ∀ x ∈ left, x ∈ rd_L13 d (n : Int)) (m : Nat) (hm : m ≤ n) : (rd_T49 s (m : Int)).f3.all (refHB s (d.set n left) m) = true := by
  obtain ⟨hv, hl, hf, hh⟩ := dataB_facts h
  have h1 := holdsB_at s d s.length 0 (by omega) hh m (by omega) (by omega)
  rw [List.all_eq_true] at h1 ⊢
  intro r hr
  have h2 := h1 r hr
  obtain ⟨b1, b2⟩ := ref_before hv (by omega : m < s.length) hr
  unfold refHB at h2 ⊢
  have e1 : rd_L13 (d.set n left) r.f1 = rd_L13 d r.f1 := by
    have := rd13_set (d := d) (n := n) (m := r.f1.toNat) (x := left) (by omega)
    rw [if_neg (by omega), Int.toNat_of_nonneg b1] at this
    exact this
  rw [e1, rd13_set (by omega)]
  by_cases e : m = n
  · rw [if_pos e]; rw [e] at h2; exact RB_sub h2 hsub
  · rw [if_neg e]; exact h2
theorem from_skip {s : List S49} {d : Data} {n : Nat} (hn : n < s.length) (h : ∀ m, m ≤ n → (rd_T49 s (m : Int)).f3.all (refHB s d m) = true) : ∀ (j m : Nat), m + j = n + 1 → fromB s d (s.length - m) m = fromB s d (s.length - (n + 1)) (n + 1) := by
  intro j
  induction j with
  | zero => intro m hm; rw [show m = n + 1 by omega]
  | succ j ih =>
    intro m hm
    rw [show s.length - m = (s.length - (m + 1)) + 1 by omega, fromB, h m (by omega), Bool.true_and]
    exact ih (m + 1) (by omega)
theorem del_ok {s : List S49} {d : Data} (h : dataB s d = true) {n : Nat} (hn : n < s.length) (gone : List Bool) : ∀ m, m < s.length → ∀ r ∈ (rd_T49 s (m : Int)).f3, RefOk s (d.set n (leftP (rd_L13 d n) gone)) m r := by
  obtain ⟨hv, hl, hf, hh⟩ := dataB_facts h
  exact ref_ok hv (by rw [List.length_set]; exact hl) (set_fit h (fun row hr => fit_rows h n hn row (leftP_mem _ _ row hr)))
theorem delete_is (s : List S49) (hw : ∀ t ∈ s, wfT t) (d : Data) (nm : ByteArray) (gone : List Bool) : Ev (fun k => deleteP k s d nm gone) (delB s d nm gone) := by
  obtain ⟨K, hK⟩ := data_is s hw d
  refine ⟨K, fun k hk => ?_⟩
  have h := hK k hk
  simp only at h
  show deleteP k s d nm gone = _
  unfold deleteP delB
  rw [h, Option.bind_some]
  cases hd : dataB s d with
  | false => rfl
  | true =>
    obtain ⟨hv, hl, hf, _⟩ := dataB_facts hd
    rw [if_pos rfl, if_pos rfl]
    obtain ⟨f1, f2⟩ := find_pos hv nm
    by_cases q : 0 ≤ findP nm 0 s
    · have hr : findP nm 0 s < (s.length : Int) := by have := findP_range nm s 0; omega
      rw [if_neg (by omega), f1 q, if_pos rfl]
      show _ = some (delAtB s d (findP nm 0 s).toNat gone)
      generalize findP nm 0 s = ni at *
      obtain ⟨n, rfl⟩ : ∃ n : Nat, ni = (n : Int) := ⟨ni.toNat, by omega⟩
      rw [Int.toNat_natCast]
      have hn : n < s.length := by omega
      unfold delAtB
      by_cases e : gone.length = (rd_L13 d n).length
      · have h1 := (from_is s _ (del_ok hd hn gone) s.length 0 (by omega)).2
        have h2 := from_skip (d := d.set n (leftP (rd_L13 d n) gone)) hn (fun m hm => del_before hd hn _ (fun x hx => leftP_mem _ _ x hx) m hm) (n + 1) 0 (by omega)
        rw [List.drop_zero] at h1
        rw [Nat.sub_zero] at h2
        rw [if_pos e, if_pos e, h1, h2, Option.bind_some]
        split <;> rfl
      · rw [if_neg e, if_neg e]
    · rw [if_pos (by omega), f2 q]; rfl
end Go.Proofs.YthgfdnffnbclpaaGreatDoor.PAll
namespace Go.Proofs.YthgfdnffnbclpaaGreatDoor.PAll
open Go.RowKit Go.Proofs.YthgfdnffnbclpaaGreatDoorW.PrintWords Go.Proofs.YthgfdnffnbclpaaGreatDoorW.PrintLast Go.Proofs.YthgfdnffnbclpaaGreatDoorW.PrintMore Go.Proofs.YthgfdnffnbclpaaGreatDoor
theorem wfT_of {t : S49} (h : okT t) : wfT t := by
  obtain ⟨h0, h1, h2, h3, h4⟩ := h
  have e : maxLen = 9223372036854775807 := by decide
  rw [e] at h0 h4
  refine ⟨h0, fun c hc => by have := h1.2 c hc; rw [e] at this; exact this, fun k hk => by have := (h2.2 k hk).1; rw [e] at this; exact this, fun r hr => ?_, h4.1⟩
  obtain ⟨g1, g2⟩ := h3.2 r hr
  rw [e] at g1
  exact ⟨g1, List.all_eq_true.2 g2⟩
theorem wfData_of {d : Data} (h : ∀ rows ∈ d, rows.length ≤ maxLen ∧ ∀ row ∈ rows, okRow row) : wfData d := fun rows hr row hw x hx => ((h rows hr).2 row hw).2 x hx
theorem wfRows_of {d : Rows} (h : ∀ row ∈ d, okRow row) : wfRows d := fun row hw x hx => (h row hw).2 x hx
end Go.Proofs.YthgfdnffnbclpaaGreatDoor.PAll
namespace Go.Proofs.YthgfdnffnbclpaaGreatDoor
open Go.ChangeShapes Go.WideShapes Go.Deep Go.RowKit
open Go.Proofs.YthgfdnffnbclpaaGreatDoorW.PrintWords Go.Proofs.YthgfdnffnbclpaaGreatDoorW.PrintLast Go.Proofs.YthgfdnffnbclpaaGreatDoorW.PrintMore Go.Proofs.YthgfdnffnbclpaaGreatDoor.PAll
end Go.Proofs.YthgfdnffnbclpaaGreatDoor
namespace Go.Proofs.YthgfdnffnbclpaaGreatDoor.PAll
open Go.RowKit Go.Proofs.YthgfdnffnbclpaaGreatDoorW.PrintWords Go.Proofs.YthgfdnffnbclpaaGreatDoorW.PrintLast Go.Proofs.YthgfdnffnbclpaaGreatDoorW.PrintMore

def isSl : Value → Bool
  | .slice _ _ _ => true
  | _ => false
/-- Where the first world has cells, the second has as many, and slices in the same places, the same. -/
def Sk (w w1 : World) : Prop := ∀ (k : Nat) (cells : Array Value) (t : TypeId), w.heap[k]? = some (.cells cells t (0, 0)) → ∃ cells1 : Array Value, w1.heap[k]? = some (.cells cells1 t (0, 0)) ∧ cells1.size = cells.size ∧ ∀ (j : Nat) (u u1 : Value), cells[j]? = some u → cells1[j]? = some u1 → (isSl u = true ∨ isSl u1 = true) → u1 = u
theorem Sk.refl (w : World) : Sk w w := fun k cells t h => ⟨cells, h, rfl, fun j u u1 h1 h2 _ => Option.some.inj (h2.symm.trans h1)⟩
theorem Sk.trans {a b c : World} (h : Sk a b) (g : Sk b c) : Sk a c := fun k cells t hk => by
  obtain ⟨c1, e1, z1, f1⟩ := h k cells t hk
  obtain ⟨c2, e2, z2, f2⟩ := g k c1 t e1
  refine ⟨c2, e2, z2.trans z1, fun j u u2 h1 h2 hs => ?_⟩
  have hj : j < c1.size := by have := (Array.getElem?_eq_some_iff.1 h1).1; omega
  have h3 : c1[j]? = some c1[j] := Array.getElem?_eq_getElem hj
  generalize c1[j] = m at h3
  rcases hs with hs | hs
  · have e := f1 j u m h1 h3 (.inl hs)
    exact (f2 j m u2 h3 h2 (.inl (by rw [e]; exact hs))).trans e
  · have e := f2 j m u2 h3 h2 (.inr hs)
    exact e.trans (f1 j u m h1 h3 (.inr (by rw [← e]; exact hs)))
theorem Sk.below {w w1 : World} (h : Below w.heap.size w w1) : Sk w w1 := fun k cells t hk => ⟨cells, (h.block k (blk_lt hk)).trans hk, rfl, fun j u u1 h1 h2 _ => Option.some.inj (h2.symm.trans h1)⟩
theorem Sk.set {w : World} {g t i : Nat} {cells : Array Value} {u0 u : Value} (hb : w.heap[g]? = some (.cells cells t (0, 0))) (hi : cells[i]? = some u0) (h0 : isSl u0 = false) (hu : isSl u = false) : Sk w (w.setCell ⟨g, i, none⟩ u) := fun k c1 t1 hk => by
  by_cases e : k = g
  · subst e
    rw [hb] at hk
    cases hk
    refine ⟨_, blk_set hb i u, by simp, fun j v v1 h1 h2 hs => ?_⟩
    by_cases e : j = i
    · subst e
      rw [Array.getElem?_setIfInBounds_self] at h2
      rw [hi] at h1
      cases h1
      split at h2
      · cases h2
        rcases hs with hs | hs
        · rw [h0] at hs; cases hs
        · rw [hu] at hs; cases hs
      · cases h2
    · rw [Array.getElem?_setIfInBounds_ne (Ne.symm e)] at h2
      exact Option.some.inj (h2.symm.trans h1)
  · exact ⟨c1, blk_far hk e u, rfl, fun j v v1 h1 h2 _ => Option.some.inj (h2.symm.trans h1)⟩
theorem Sk.sets : ∀ (seg : List Value) (o : Nat) {w : World} {g t : Nat} {cells : Array Value}, w.heap[g]? = some (.cells cells t (0, 0)) → (∀ j, j < seg.length → ∃ u0, cells[o + j]? = some u0 ∧ isSl u0 = false) → (∀ q ∈ seg, isSl q = false) → Sk w (w.setCells g o seg)
  | [], _, w, _, _, _, _, _, _ => Sk.refl w
  | v :: r, o, w, g, t, cells, hb, hc, hs => by
    obtain ⟨u0, h1, h2⟩ := hc 0 (by simp)
    have h3 := Sk.set hb (i := o) (u := v) (by simpa using h1) h2 (hs v List.mem_cons_self)
    refine h3.trans (Sk.sets r (o + 1) (blk_set hb o v) (fun j hj => ?_) (fun q hq => hs q (List.mem_cons_of_mem _ hq)))
    obtain ⟨u1, h4, h5⟩ := hc (j + 1) (by simpa using hj)
    exact ⟨u1, by rw [Array.getElem?_setIfInBounds_ne (by omega)]; rw [show o + 1 + j = o + (j + 1) by omega]; exact h4, h5⟩
theorem Sk.cell {w w1 : World} (h : Sk w w1) {g t i : Nat} {cells : Array Value} {u : Value} (hb : w.heap[g]? = some (.cells cells t (0, 0))) (hi : w.cell? ⟨g, i, none⟩ = some u) (hs : isSl u = true) : w1.cell? ⟨g, i, none⟩ = some u := by
  obtain ⟨c1, e1, z1, f1⟩ := h g cells t hb
  rw [blk_cell hb] at hi
  rw [blk_cell e1]
  have hj : i < c1.size := by have := (Array.getElem?_eq_some_iff.1 hi).1; omega
  rw [Array.getElem?_eq_getElem hj, f1 i u _ hi (Array.getElem?_eq_getElem hj) (.inl hs)]
theorem Sk.blk {w w1 : World} (h : Sk w w1) {g t : Nat} {cells : Array Value} (hb : w.heap[g]? = some (.cells cells t (0, 0))) : ∃ c1 : Array Value, w1.heap[g]? = some (.cells c1 t (0, 0)) ∧ c1.size = cells.size ∧ ∀ (i : Nat) (u : Value), w.cell? ⟨g, i, none⟩ = some u → isSl u = false → ∃ u1, c1[i]? = some u1 ∧ isSl u1 = false := by
  obtain ⟨c1, e1, z1, f1⟩ := h g cells t hb
  refine ⟨c1, e1, z1, fun i u hi hs => ?_⟩
  rw [blk_cell hb] at hi
  have hj : i < c1.size := by have := (Array.getElem?_eq_some_iff.1 hi).1; omega
  refine ⟨c1[i], Array.getElem?_eq_getElem hj, ?_⟩
  cases hh : isSl c1[i] with
  | false => rfl
  | true =>
    have := f1 i u _ hi (Array.getElem?_eq_getElem hj) (.inr hh)
    rw [this, hs] at hh
    cases hh

set_option maxHeartbeats 4000000 in
set_option maxRecDepth 100000 in
/-- spoil: of what it writes, where slices lie stays; it writes into the rows alone. -/
theorem spoil_walk (v : Value) (rows : Rows) (base : Nat) (ok : Nat → Prop) (W0 w : World) (hR : (Kd.slice 87 k64).R 89 W0 base ok v rows) (hk : Sk W0 w) :
    Calls Tryz.prog 23 #[v] w fun e w' => e = .returned (.tuple #[]) ∧ Sk W0 w' ∧ Below base w w' := by
  obtain ⟨A, c, rfl⟩ := Kd.R_slice hR
  have HR := Aside0.mk hR
  have HK := Aside0.mk hk
  have hlen := (Kd.R_reads' hR).2.2.2.1
  have HB0 := Aside0.mk (Below.refl base w)
  clear hR hk
  go_enter Tryz.func23, Tryz.ntmps23
  go_wp2
  go_loopg [2] rows.length (fun gk v2 wx => ∃ (i : Nat), i + gk = rows.length ∧ v2 = .int .i64 i ∧ Aside0 (Sk W0 wx) ∧ Aside0 (Below base w wx))
  case atStart => exact ⟨0, by omega, rfl, HK, HB0⟩
  case round =>
    clear HK HB0
    obtain ⟨i, hi, rfl, HK, HB⟩ := hrel
    cases gk with
    | zero =>
      have hii : ¬ (i : Int) < (rows.length : Int) := by omega
      go_wp2
      go_end0
      exact ⟨rfl, HK.out, HB.out⟩
    | succ gk =>
      have hlt : i < rows.length := by omega
      have hii : (i : Int) < (rows.length : Int) := by omega
      have hi0 : (0 : Int) ≤ (i : Int) := by omega
      obtain ⟨g, cap, e, hg1, hg2, gcells, hgc⟩ := Kd.R_form HR.out (by omega)
      cases e
      obtain ⟨cc, hcl, hM, hcc⟩ := Kd.R_getA HR.out ([] : List S64) (i : Int) hi0 hii
      obtain ⟨vr, rfl, hRr⟩ := hM
      obtain ⟨Ai, ci, rfl⟩ := Kd.R_slice hRr
      have hcell := hcc 0 _ rfl
      have hgd : List.getD rows (i : Int).toNat [] = rows[i] := by simp [List.getD, hlt]
      rw [hgd] at hcell hRr
      have hcell0 : W0.cell? ⟨g, i, none⟩ = some (.slice Ai rows[i].length ci) := by rw [add_plain] at hcell; simpa [Kd.slice] using hcell
      have HC := Aside0.mk (fun W (hW : Sk W0 W) => hW.cell hgc hcell0 rfl)
      have HRr := Aside0.mk hRr
      have hl2 := (Kd.R_reads' hRr).2.2.2.1
      clear hcell hcc hRr hgd hcell0 hgc hg1 hg2 hcl
      generalize rows[i] = row at *
      go_wp2
      go_loopg [3] row.length (fun gj v3 wx => ∃ (j : Nat), j + gj = row.length ∧ v3 = .int .i64 j ∧ Aside0 (Sk W0 wx) ∧ Aside0 (Below base w wx))
      case atStart => exact ⟨0, by omega, rfl, HK, HB⟩
      case round =>
        clear HK HB
        obtain ⟨j, hj, rfl, HK, HB⟩ := hrel
        have x0 := HC.out wr HK.out
        cases gk with
        | zero =>
          have hjj : ¬ (j : Int) < (row.length : Int) := by omega
          go_wp2
          go_roundg gk
          case measure => omega
          case rel => exact ⟨i + 1, by omega, by first | rfl | (simp; done) | (simp; unfold wrap64; omega), HK, HB⟩
        | succ gj =>
          have hjlt : j < row.length := by omega
          have hjj : (j : Int) < (row.length : Int) := by omega
          have hj0 : (0 : Int) ≤ (j : Int) := by omega
          obtain ⟨gr, capr, e, hr1, hr2, rcells, hrc⟩ := Kd.R_form HRr.out (by omega)
          cases e
          obtain ⟨cv, hvl, hMv, hvc⟩ := Kd.R_getA HRr.out (⟨0, 0, ⟨#[]⟩⟩ : S64) (j : Int) hj0 hjj
          have hce := k64_open (k64.K_of_M hMv)
          generalize List.getD row (j : Int).toNat (⟨0, 0, ⟨#[]⟩⟩ : S64) = vx at *
          subst hce
          have t0 := hvc 0 _ rfl
          have t1 := hvc 1 _ rfl
          have t2 := hvc 2 _ rfl
          rw [add_plain, Int.toNat_natCast] at t0 t1 t2
          obtain ⟨c1, hc1, hz1, ht1⟩ := Sk.blk HK.out hrc
          obtain ⟨q0, a0, b0⟩ := ht1 _ _ t0 rfl
          obtain ⟨q1, a1, b1⟩ := ht1 _ _ t1 rfl
          obtain ⟨q2, a2, b2⟩ := ht1 _ _ t2 rfl
          have hfit : j * 3 + 3 ≤ c1.size := by have h9 := (Array.getElem?_eq_some_iff.1 a2).1; have h8 : k64.sz = 3 := rfl; rw [h8] at h9; omega
          have hrun := run_store_run (P := Tryz.prog) 87 (.agg #[.int .u8 1, .int .i64 77, .string ⟨#[]⟩]) [.int .u8 1, .int .i64 77, .string ⟨#[]⟩] hc1 rfl (by kernel_rfl) (o := j * 3) hfit (by simp [Value.oneCell'])
          have HK2 : Aside0 (Sk W0 (wr.setCells gr (j * 3) [.int .u8 1, .int .i64 77, .string ⟨#[]⟩])) := ⟨HK.out.trans (Sk.sets _ _ hc1 (fun m hm => by
            match m, hm with
            | 0, _ => exact ⟨q0, a0, b0⟩
            | 1, _ => exact ⟨q1, a1, b1⟩
            | 2, _ => exact ⟨q2, a2, b2⟩) (by simp [isSl]))⟩
          have HB2 : Aside0 (Below base w (wr.setCells gr (j * 3) [.int .u8 1, .int .i64 77, .string ⟨#[]⟩])) := ⟨Go.below_setCells hr1 _ _ _ HB.out⟩
          obtain ⟨W4, hW4⟩ : ∃ W4, W4 = wr.setCells gr (j * 3) [.int .u8 1, .int .i64 77, .string ⟨#[]⟩] := ⟨_, rfl⟩
          rw [← hW4] at hrun HK2 HB2
          have HRUN := Aside0.mk hrun
          clear hrun hW4 a0 a1 a2 b0 b1 b2 t0 t1 t2 hc1 hz1 ht1 hfit hrc hMv hvc hvl hr1 hr2
          go_wp2_with ((with_reducible refine gate_ (.store 87 (.tmp 25) (.tmp 24)) rfl ?_); refine wpList_put_run rfl 87 (.tmp 25) (.tmp 24) rfl rfl rfl rfl HRUN.out ?_)
          go_roundg gj
          case measure => omega
          case rel => exact ⟨j + 1, by omega, by first | rfl | (simp; done) | (simp; unfold wrap64; omega), HK2, HB2⟩
end Go.Proofs.YthgfdnffnbclpaaGreatDoor.PAll
namespace Go.Proofs.YthgfdnffnbclpaaGreatDoor.PAll
open Go.RowKit Go.Proofs.YthgfdnffnbclpaaGreatDoorW.PrintWords Go.Proofs.YthgfdnffnbclpaaGreatDoorW.PrintLast Go.Proofs.YthgfdnffnbclpaaGreatDoorW.PrintMore

/-- A cell of a row's element that is no slice: it can be written. -/
theorem Sk.put {α : Type} {d : Kd α} {e base n c : Nat} {ok : Nat → Prop} {W0 : World} {A : Option Addr} {xs : List α} (hR : d.R e W0 base ok (.slice A n c) xs) (z : α) (j m : Nat) (hj : j < xs.length) (hm : ∀ x cs, d.K W0 x cs → ∃ u0, cs[m]? = some u0 ∧ isSl u0 = false) :
    ∃ g, A = some ⟨g, 0, none⟩ ∧ base ≤ g ∧ ∀ W, Sk W0 W → ∃ u1, W.cell? ⟨g, j * d.sz + m, none⟩ = some u1 ∧ W.frozen? ⟨g, j * d.sz + m, none⟩ = false ∧ ∀ u, isSl u = false → Sk W0 (W.setCell ⟨g, j * d.sz + m, none⟩ u) := by
  obtain ⟨g, cap, e1, hg1, hg2, gcells, hgc⟩ := Kd.R_form hR (by omega)
  have hn := (Kd.R_reads' hR).1
  cases e1
  obtain ⟨cc, hcl, hM, hcc⟩ := Kd.R_getA hR z (j : Int) (by omega) (by omega)
  obtain ⟨u0, h0, h1⟩ := hm _ _ (d.K_of_M hM)
  have h2 := hcc m u0 h0
  rw [add_plain, Int.toNat_natCast] at h2
  refine ⟨g, rfl, hg1, fun W hW => ?_⟩
  obtain ⟨c1, hc1, hz1, ht1⟩ := Sk.blk hW hgc
  obtain ⟨u1, a1, b1⟩ := ht1 _ _ h2 h1
  exact ⟨u1, (blk_cell hc1 _).trans a1, blk_frozen hc1 _, fun u hu => hW.trans (Sk.set hc1 a1 b1 hu)⟩
theorem Sk.at {α : Type} {d : Kd α} {e base n c : Nat} {ok : Nat → Prop} {W0 : World} {A : Option Addr} {xs : List α} (hR : d.R e W0 base ok (.slice A n c) xs) (z : α) (j : Nat) (hj : j < xs.length) :
    ∃ g, A = some ⟨g, 0, none⟩ ∧ base ≤ g ∧ ∃ (oki : Nat → Prop) (cs : List Value), d.M W0 base oki (xs.getD j z) cs ∧ ∀ (m : Nat) (u : Value), cs[m]? = some u → isSl u = true → ∀ W, Sk W0 W → W.cell? ⟨g, j * d.sz + m, none⟩ = some u := by
  obtain ⟨g, cap, e1, hg1, hg2, gcells, hgc⟩ := Kd.R_form hR (by omega)
  have hn := (Kd.R_reads' hR).1
  cases e1
  obtain ⟨cc, hcl, hM, hcc⟩ := Kd.R_getA hR z (j : Int) (by omega) (by omega)
  rw [Int.toNat_natCast] at hM
  refine ⟨g, rfl, hg1, _, cc, hM, fun m u hu hs W hW => ?_⟩
  have h2 := hcc m u hu
  rw [add_plain, Int.toNat_natCast] at h2
  exact hW.cell hgc h2 hs

set_option maxHeartbeats 4000000 in
set_option maxRecDepth 100000 in
theorem spoilS_walk (v : Value) (s : List S49) (base : Nat) (ok : Nat → Prop) (W0 w : World) (hR : k49.R 72 W0 base ok v s) (hk : Sk W0 w) :
    Calls Tryz.prog 25 #[v] w fun e w' => e = .returned (.tuple #[]) ∧ Sk W0 w' ∧ Below base w w' := by
  obtain ⟨A, c, rfl⟩ := Kd.R_slice hR
  have HR := Aside0.mk hR
  have HK := Aside0.mk hk
  have hlen := (Kd.R_reads' hR).2.2.2.1
  have HB0 := Aside0.mk (Below.refl base w)
  clear hR hk
  go_enter Tryz.func25, Tryz.ntmps25
  go_wp2
  go_loopg [2] s.length (fun gk v2 wx => ∃ (i : Nat), i + gk = s.length ∧ v2 = .int .i64 i ∧ Aside0 (Sk W0 wx) ∧ Aside0 (Below base w wx))
  case atStart => exact ⟨0, by omega, rfl, HK, HB0⟩
  case round =>
    clear HK HB0
    obtain ⟨i, hi, rfl, HK, HB⟩ := hrel
    cases gk with
    | zero =>
      have hii : ¬ (i : Int) < (s.length : Int) := by omega
      go_wp2
      go_end0
      exact ⟨rfl, HK.out, HB.out⟩
    | succ gk =>
      have hlt : i < s.length := by omega
      have hii : (i : Int) < (s.length : Int) := by omega
      have hi0 : (0 : Int) ≤ (i : Int) := by omega
      obtain ⟨g, e, hg1, oki, cc, hM, hcc⟩ := Sk.at HR.out z49 i hlt
      obtain ⟨g', e', _, hput⟩ := Sk.put HR.out z49 i 0 hlt (fun x cs hK => by obtain ⟨_, _, _, _, _, _, _, _, rfl, _⟩ := k49_open hK; exact ⟨_, rfl, rfl⟩)
      rw [e] at e'
      cases e'
      subst e
      rw [List.getD_eq_getElem?_getD, List.getElem?_eq_getElem hlt] at hM
      change k49.M W0 base oki s[i] cc at hM
      have HPUT : Aside0 (∀ W, Sk W0 W → ∃ u1, W.cell? ⟨g, i * 5, none⟩ = some u1 ∧ W.frozen? ⟨g, i * 5, none⟩ = false ∧ ∀ u, isSl u = false → Sk W0 (W.setCell ⟨g, i * 5, none⟩ u)) := ⟨fun W hW => hput W hW⟩
      obtain ⟨v1, v2, v3, v4, rfl, g1, g2, g3, g4⟩ := k49_openM hM
      obtain ⟨A1, c1, rfl⟩ := Kd.R_slice g1
      obtain ⟨A2, c2, rfl⟩ := Kd.R_slice g2
      obtain ⟨A4, c4, rfl⟩ := Kd.R_slice g4
      have HC1 : Aside0 (∀ W, Sk W0 W → W.cell? ⟨g, i * 5 + 1, none⟩ = some (.slice A1 s[i].f1.length c1)) := ⟨fun W hW => hcc 1 _ rfl rfl W hW⟩
      have HC2 : Aside0 (∀ W, Sk W0 W → W.cell? ⟨g, i * 5 + 2, none⟩ = some (.slice A2 s[i].f2.length c2)) := ⟨fun W hW => hcc 2 _ rfl rfl W hW⟩
      have HC4 : Aside0 (∀ W, Sk W0 W → W.cell? ⟨g, i * 5 + 4, none⟩ = some (.slice A4 s[i].f4.length c4)) := ⟨fun W hW => hcc 4 _ rfl rfl W hW⟩
      have G1 := Aside0.mk g1
      have G2 := Aside0.mk g2
      have G4 := Aside0.mk g4
      have hl1 := (Kd.R_reads' g1).2.2.2.1
      have hl2 := (Kd.R_reads' g2).2.2.2.1
      have hl4 := (Kd.R_reads' g4).2.2.2.1
      clear hcc hM hput g1 g2 g3 g4
      generalize s[i] = t at *
      go_wp2
      go_loopg [3] t.f1.length (fun gj v3 wx => ∃ (j : Nat), j + gj = t.f1.length ∧ v3 = .int .i64 j ∧ Aside0 (Sk W0 wx) ∧ Aside0 (Below base w wx))
      case atStart => exact ⟨0, by omega, rfl, HK, HB⟩
      case round =>
        clear HK HB
        obtain ⟨j, hj, rfl, HK, HB⟩ := hrel
        have x1 := HC1.out wr HK.out
        cases gk with
        | succ g8 =>
          have hjlt : j < t.f1.length := by omega
          have hjj : (j : Int) < (t.f1.length : Int) := by omega
          have hj0 : (0 : Int) ≤ (j : Int) := by omega
          obtain ⟨gr, e, hr1, hput⟩ := Sk.put G1.out (⟨⟨#[]⟩, 0, false, 0, 0⟩ : S78) j 0 hjlt (fun x cs hK => by obtain rfl := k78_open hK; exact ⟨_, rfl, rfl⟩)
          subst e
          obtain ⟨u1, hx, hxf, hset⟩ := hput wr HK.out
          have hsz : j * k78.sz + 0 = j * 5 := rfl
          rw [hsz] at hx hxf hset
          have HK2 := Aside0.mk (hset (.string ⟨#[111, 116, 104, 101, 114]⟩) rfl)
          have HB2 := Aside0.mk (HB.out.setCell (p := ⟨gr, j * 5, none⟩) hr1 (.string ⟨#[111, 116, 104, 101, 114]⟩))
          clear hput hset hsz
          go_wp2
          go_roundg g8
          case measure => omega
          case rel => exact ⟨j + 1, by omega, by first | rfl | (simp; done) | (simp; unfold wrap64; omega), HK2, HB2⟩
        | zero =>
          have hjj : ¬ (j : Int) < (t.f1.length : Int) := by omega
          go_wp2
          clear x1
          go_loopg [4] t.f2.length (fun gj v4 wx => ∃ (j : Nat), j + gj = t.f2.length ∧ v4 = .int .i64 j ∧ Aside0 (Sk W0 wx) ∧ Aside0 (Below base w wx))
          case atStart => exact ⟨0, by omega, rfl, HK, HB⟩
          case round =>
            clear HK HB hjj hj
            obtain ⟨j2, hj, rfl, HK, HB⟩ := hrel
            have x2 := HC2.out wr HK.out
            cases gk with
            | succ g12 =>
              have hjlt : j2 < t.f2.length := by omega
              have hjj : (j2 : Int) < (t.f2.length : Int) := by omega
              have hj0 : (0 : Int) ≤ (j2 : Int) := by omega
              obtain ⟨gr, e, hr1, okr, ck, hMk, hck⟩ := Sk.at G2.out ([] : List Int) j2 hjlt
              subst e
              rw [List.getD_eq_getElem?_getD, List.getElem?_eq_getElem hjlt] at hMk
              obtain ⟨vk, rfl, hRk⟩ := hMk
              change (Kd.int .i64).R 3 W0 base okr vk t.f2[j2] at hRk
              obtain ⟨Ak, cpk, rfl⟩ := Kd.R_slice hRk
              have HCK : Aside0 (∀ W, Sk W0 W → W.cell? ⟨gr, j2, none⟩ = some (.slice Ak t.f2[j2].length cpk)) := ⟨fun W hW => by have := hck 0 _ rfl rfl W hW; simpa [Kd.slice] using this⟩
              have GK := Aside0.mk hRk
              have hlk := (Kd.R_reads' hRk).2.2.2.1
              clear hck hRk
              generalize t.f2[j2] = key at *
              go_wp2
              clear x2
              go_loopg [5] key.length (fun gj v5 wx => ∃ (j : Nat), j + gj = key.length ∧ v5 = .int .i64 j ∧ Aside0 (Sk W0 wx) ∧ Aside0 (Below base w wx))
              case atStart => exact ⟨0, by omega, rfl, HK, HB⟩
              case round =>
                clear HK HB
                obtain ⟨q, hq, rfl, HK, HB⟩ := hrel
                have x2 := HC2.out wr HK.out
                have x3 := HCK.out wr HK.out
                cases gk with
                | succ g16 =>
                  have hqlt : q < key.length := by omega
                  have hqq : (q : Int) < (key.length : Int) := by omega
                  have hq0 : (0 : Int) ≤ (q : Int) := by omega
                  obtain ⟨gy, e, hy1, hput⟩ := Sk.put GK.out (0 : Int) q 0 hqlt (fun x cs hK => by have e : cs = [.int .i64 x] := hK; subst e; exact ⟨_, rfl, rfl⟩)
                  subst e
                  obtain ⟨u1, hx, hxf, hset⟩ := hput wr HK.out
                  have hsz : q * (Kd.int .i64).sz + 0 = q := by show q * 1 + 0 = q; omega
                  rw [hsz] at hx hxf hset
                  have HK2 := Aside0.mk (hset (.int .i64 77) rfl)
                  have HB2 := Aside0.mk (HB.out.setCell (p := ⟨gy, q, none⟩) hy1 (.int .i64 77))
                  clear hput hset hsz
                  go_wp2
                  go_roundg g16
                  case measure => omega
                  case rel => exact ⟨q + 1, by omega, by first | rfl | (simp; done) | (simp; unfold wrap64; omega), HK2, HB2⟩
                | zero =>
                  have hqq : ¬ (q : Int) < (key.length : Int) := by omega
                  go_wp2
                  go_roundg g12
                  case measure => omega
                  case rel => exact ⟨j2 + 1, by omega, by first | rfl | (simp; done) | (simp; unfold wrap64; omega), HK, HB⟩
            | zero =>
              have hjj : ¬ (j2 : Int) < (t.f2.length : Int) := by omega
              go_wp2
              clear x2
              go_loopg [6] t.f4.length (fun gj v6 wx => ∃ (j : Nat), j + gj = t.f4.length ∧ v6 = .int .i64 j ∧ Aside0 (Sk W0 wx) ∧ Aside0 (Below base w wx))
              case atStart => exact ⟨0, by omega, rfl, HK, HB⟩
              case round =>
                clear HK HB hjj hj
                obtain ⟨j4, hj, rfl, HK, HB⟩ := hrel
                have x4 := HC4.out wr HK.out
                cases gk with
                | succ g16 =>
                  have hjlt : j4 < t.f4.length := by omega
                  have hjj : (j4 : Int) < (t.f4.length : Int) := by omega
                  have hj0 : (0 : Int) ≤ (j4 : Int) := by omega
                  obtain ⟨gy, e, hy1, hput⟩ := Sk.put G4.out (0 : Int) j4 0 hjlt (fun x cs hK => by have e : cs = [.int .i64 x] := hK; subst e; exact ⟨_, rfl, rfl⟩)
                  subst e
                  obtain ⟨u1, hx, hxf, hset⟩ := hput wr HK.out
                  have hsz : j4 * (Kd.int .i64).sz + 0 = j4 := by show j4 * 1 + 0 = j4; omega
                  rw [hsz] at hx hxf hset
                  have HK2 := Aside0.mk (hset (.int .i64 77) rfl)
                  have HB2 := Aside0.mk (HB.out.setCell (p := ⟨gy, j4, none⟩) hy1 (.int .i64 77))
                  clear hput hset hsz
                  go_wp2
                  go_roundg g16
                  case measure => omega
                  case rel => exact ⟨j4 + 1, by omega, by first | rfl | (simp; done) | (simp; unfold wrap64; omega), HK2, HB2⟩
                | zero =>
                  have hjj : ¬ (j4 : Int) < (t.f4.length : Int) := by omega
                  obtain ⟨u1, hx, hxf, hset⟩ := HPUT.out wr HK.out
                  have HK2 := Aside0.mk (hset (.string ⟨#[111, 116, 104, 101, 114]⟩) rfl)
                  have HB2 := Aside0.mk (HB.out.setCell (p := ⟨g, i * 5, none⟩) hg1 (.string ⟨#[111, 116, 104, 101, 114]⟩))
                  clear hset
                  go_wp2
                  go_roundg gk
                  case measure => omega
                  case rel => exact ⟨i + 1, by omega, by first | rfl | (simp; done) | (simp; unfold wrap64; omega), HK2, HB2⟩
end Go.Proofs.YthgfdnffnbclpaaGreatDoor.PAll
