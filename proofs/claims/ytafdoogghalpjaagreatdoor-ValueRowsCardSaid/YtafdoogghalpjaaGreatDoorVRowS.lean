/- Rows (slices of values) as arguments: the parameter's datum opened to the list of its values. The block open_slice_fields is the guide's (extra-structs.md, section 1). -/
import Derived.Test.YtafdoogghalpjaaGreatDoorVRow
import Derived.Test.YtafdoogghalpjaaGreatDoorVPOrd
import Derived.Deep.Slices
import Derived.Deep.Fields
import Derived.ChangeSame
set_option linter.unusedVariables false
namespace Go.Proofs.YtafdoogghalpjaaGreatDoor
open Go.ChangeShapes Go.WideShapes Go.Deep Go.RowKit
open Go.Proofs.YtafdoogghalpjaaGreatDoorW.PrintWords Go.Proofs.YtafdoogghalpjaaGreatDoorW.PrintLast Go.Proofs.YtafdoogghalpjaaGreatDoorW.PrintMore Go.Proofs.YtafdoogghalpjaaGreatDoor.PAll

section
variable {H : Type} {enc : TypeId × Value → H} {P : Program} {w : World} {base : Nat} {spare : Nat → Bool} {held : Bool}
theorem open_slice_fields {t e : TypeId} {fs : Array Field} {fuel : Nat} {cs : List Value} {x : DataW H × List MemPlace} (ht : P.underlying t = some (.slice e)) (he : P.underlying e = some (.struct fs))
    (hone : oneCellFields P fs = true) (hC : P.cellsOf e = fs.size) (h : DataW.trod enc P w base spare held fuel t cs = some x) :
    (cs = [.slice none 0 0] ∧ x = (.nil, [])) ∨
    ∃ (a : Addr) (len cap m : Nat) (D : Nat → DataW H) (Pl : Nat → List MemPlace), cs = [.slice (some a) len cap] ∧ base ≤ a.block ∧ len ≤ cap ∧ cap ≤ maxLen ∧ m = (if spare a.block then cap else len) ∧
      x = (.slice ((List.range len).map D) ((List.range (m - len)).map fun j => D (len + j)), MemPlace.row a (m * fs.size) ++ (List.range m).flatMap Pl) ∧
      ∀ i, i < m → ∃ (ys : List (DataW H × List MemPlace)) (n : Nat), D i = .agg (ys.map (·.1)) ∧ Pl i = ys.flatMap (·.2) ∧ ys.length = fs.size ∧
        ∀ (j : Nat) (f : Field), fs[j]? = some f → ∃ (v : Value) (y : DataW H × List MemPlace), w.cell? (a.add (i * fs.size + j)) = some v ∧ ys[j]? = some y ∧ DataW.trod enc P w base spare held n f.type [v] = some y := by
  rcases open_slice ht h with h0 | ⟨a, len, cap, m, n, D, Pl, hcs, hb, hl, hm, hmm, hx, hi⟩
  · exact .inl h0
  · refine .inr ⟨a, len, cap, m, D, Pl, hcs, hb, hl, hm, hmm, by rw [hC] at hx; exact hx, fun i him => ?_⟩
    obtain ⟨cs', hc, ht'⟩ := hi i him
    rw [hC] at hc
    obtain ⟨ys, n', hn', hy, hlen, hyl, hf⟩ := DataW.trod_struct he ht'
    obtain ⟨_, hcl, hat⟩ := World.cells?_some hc
    simp only [Prod.mk.injEq] at hy
    refine ⟨ys, n', hy.1, hy.2, hyl, fun j f hj => ?_⟩
    obtain ⟨ho, hk⟩ := hone_of hone j f hj
    have hjl : j < fs.size := (Array.getElem?_eq_some_iff.1 hj).1
    have hcell := hat j hjl
    have hv : cs'[j]? = some (cs'[j]'(by omega)) := List.getElem?_eq_getElem (by omega)
    have h1 := hf j f hj
    rw [ho, hk] at h1
    have hone' : (cs'.drop j).take 1 = [cs'[j]'(by omega)] := by
      rw [List.drop_eq_getElem_cons (by omega)]
      rfl
    rw [hone'] at h1
    have hys : ys[j]? = some (ys[j]'(by omega)) := List.getElem?_eq_getElem (by omega)
    refine ⟨_, _, ?_, hys, h1.trans hys⟩
    rw [← Go.Deep.add_add, hcell, hv]
end

theorem row_cells {H : Type} {enc : TypeId × Value → H} {w : World} {fs : Array Field} {a : Addr} {i : Nat} {D : Nat → DataW H} {Pl : Nat → List MemPlace}
    (hfs : fs.map (·.type) = #[22, 2, 9])
    (h : ∃ (ys : List (DataW H × List MemPlace)) (n : Nat), D i = .agg (ys.map (·.1)) ∧ Pl i = ys.flatMap (·.2) ∧ ys.length = fs.size ∧
        ∀ (j : Nat) (f : Field), fs[j]? = some f → ∃ (v : Value) (y : DataW H × List MemPlace), w.cell? (a.add (i * fs.size + j)) = some v ∧ ys[j]? = some y ∧ DataW.trod enc Tryz.prog w 0 (fun _ => true) true n f.type [v] = some y) :
    ∃ x : S24, ((0 ≤ x.f0 ∧ x.f0 ≤ 255) ∧ x.f2.size ≤ 9223372036854775807) ∧ k24.K w x [.int .u8 x.f0, .int .i64 x.f1, .string x.f2] ∧
      ∀ j u, ([.int .u8 x.f0, .int .i64 x.f1, .string x.f2] : List Value)[j]? = some u → w.cell? (a.add (i * 3 + j)) = some u := by
  obtain ⟨ys, n, _, _, _, hf⟩ := h
  have hs : fs.size = 3 := by have := congrArg Array.size hfs; simpa using this
  rw [hs] at hf
  have g0 : (fs[0]'(by omega)).type = 22 := by have := congrArg (·[0]?) hfs; simpa [hs] using this
  have g1 : (fs[1]'(by omega)).type = 2 := by have := congrArg (·[1]?) hfs; simpa [hs] using this
  have g2 : (fs[2]'(by omega)).type = 9 := by have := congrArg (·[2]?) hfs; simpa [hs] using this
  obtain ⟨v0, y0, c0, _, t0⟩ := hf 0 _ (Array.getElem?_eq_getElem (by omega))
  obtain ⟨v1, y1, c1, _, t1⟩ := hf 1 _ (Array.getElem?_eq_getElem (by omega))
  obtain ⟨v2, y2, c2, _, t2⟩ := hf 2 _ (Array.getElem?_eq_getElem (by omega))
  rw [g0] at t0
  rw [g1] at t1
  rw [g2] at t2
  obtain ⟨x0, e0, _, w0⟩ := DataW.trod_int Tryz.underlying22 t0
  obtain ⟨x1, e1, _, w1⟩ := DataW.trod_int Tryz.underlying2 t1
  obtain ⟨x2, e2, _, w2⟩ := DataW.trod_string Tryz.underlying9 t2
  simp at e0 e1 e2
  subst e0 e1 e2
  refine ⟨⟨x0, x1, x2⟩, ⟨PAll.u8_of w0, w2⟩, k24_mk _ _, ?_⟩
  intro j u hj
  match j with
  | 0 => simp at hj; subst hj; exact c0
  | 1 => simp at hj; subst hj; exact c1
  | 2 => simp at hj; subst hj; exact c2
  | j + 3 => simp at hj

set_option maxRecDepth 100000 in
theorem open_rows {H : Type} {enc : TypeId × Value → H} {w : World} {v : Value} {d : DataW H} {p : List MemPlace} (hv : Value.okWide Tryz.prog w .any 0 38 v)
    (h : DataW.Trod enc Tryz.prog w 0 (fun _ => true) true 38 v d p) :
    ∃ (A : Option Addr) (cap : Nat) (l : List S24), v = .slice A l.length cap ∧ l.length ≤ cap ∧ k24.C w A l.length l ∧
      (∀ a ∈ l, (0 ≤ a.f0 ∧ a.f0 ≤ 255) ∧ a.f2.size ≤ 9223372036854775807) ∧
      (l = [] ∨ ∃ elems spare : List (DataW H), d = .slice elems spare ∧ elems.length = l.length) := by
  obtain ⟨A0, len0, cap0, rfl⟩ := okWide_slice Tryz.underlying38 hv
  obtain ⟨fuel, hf⟩ := h
  rcases open_slice_fields (t := 38) (e := 24) Tryz.underlying38 Tryz.underlying24 (by kernel_rfl) (by kernel_rfl) hf with ⟨hcs, hx⟩ | ⟨a, len, cap, m, D, Pl, hcs, hb, hl, hm, hmm, hx, hi⟩
  · have hcs' : (Value.slice A0 len0 cap0) = .slice none 0 0 := by simpa [Value.cells] using hcs
    rw [hcs']
    exact ⟨none, 0, [], rfl, Nat.le_refl _, ⟨rfl, by simp, fun h => by simp at h⟩, fun a h => by simp at h, .inl rfl⟩
  · have hcs' : (Value.slice A0 len0 cap0) = .slice (some a) len cap := by simpa [Value.cells] using hcs
    rw [hcs']
    have hmc : m = cap := by simpa using hmm
    have key : ∀ i, i < len → ∃ x : S24, ((0 ≤ x.f0 ∧ x.f0 ≤ 255) ∧ x.f2.size ≤ 9223372036854775807) ∧ k24.K w x [.int .u8 x.f0, .int .i64 x.f1, .string x.f2] ∧
        ∀ j u, ([.int .u8 x.f0, .int .i64 x.f1, .string x.f2] : List Value)[j]? = some u → w.cell? (a.add (i * 3 + j)) = some u :=
      fun i h => row_cells (by simp) (hi i (by omega))
    let f : Nat → S24 := fun i => if h : i < len then Classical.choose (key i h) else z24
    have hf : ∀ i, i < len → ((0 ≤ (f i).f0 ∧ (f i).f0 ≤ 255) ∧ (f i).f2.size ≤ 9223372036854775807) ∧ k24.K w (f i) [.int .u8 (f i).f0, .int .i64 (f i).f1, .string (f i).f2] ∧
        ∀ j u, ([.int .u8 (f i).f0, .int .i64 (f i).f1, .string (f i).f2] : List Value)[j]? = some u → w.cell? (a.add (i * 3 + j)) = some u := by
      intro i h
      have := Classical.choose_spec (key i h)
      simp only [f, dif_pos h]
      exact this
    have hlen : ((List.range len).map f).length = len := by simp
    refine ⟨some a, cap, (List.range len).map f, by rw [hlen], by rw [hlen]; exact hl, ⟨rfl, ?_, fun _ => ⟨a, rfl, ?_⟩⟩, ?_, .inr ⟨(List.range len).map D, _, (Prod.mk.inj hx).1, by simp⟩⟩
    · rw [hlen]; have : maxLen = 9223372036854775807 := by decide
      omega
    · intro j x hj
      have hjl : j < len := by
        have := (List.getElem?_eq_some_iff.1 hj).1
        simpa using this
      have : x = f j := by
        rw [List.getElem?_map, List.getElem?_range hjl] at hj
        simpa using hj.symm
      subst this
      exact ⟨_, rfl, (hf j hjl).2.1, (hf j hjl).2.2⟩
    · intro x hx'
      obtain ⟨i, hi', rfl⟩ := List.mem_map.1 hx'
      exact (hf i (List.mem_range.1 hi')).1
end Go.Proofs.YtafdoogghalpjaaGreatDoor
