/- What the row by size of LexJoins takes from the form: the wrap that hands the walk the listed variables and the world's shape; from these to what the walks ask (LaidL); the witness's listed tables. -/
import Derived.Test.YtaibkpbiccibjaaGreatDoorRows
import Derived.Test.YtaibkpbiccibjaaGreatDoorCards
import Derived.Test.YtaibkpbiccibjaaGreatDoorTie
import Derived.Test.YtaibkpbiccibjaaGreatDoorLStub
import Derived.WalkKit
import Derived.ProofKit
import Derived.OpenShut
import Derived.ShutString
import Derived.ChangeOld
import Derived.Below
import Derived.Carry
import Derived.SizedLaws
import Derived.HandedShaped
import Derived.Lib.SmallJoins
import Derived.Lib.LaidTab
import Derived.Stop.LaidErr
import Derived.Shelf.Vars
import Derived.Lay
import Derived.LaidOnce
import Derived.SevenTiedAt
import Derived.JoinedCond
import Derived.LaidLaws
import Derived.Test.YtaibkpbiccibjaaGreatDoorJPb
import Derived.Deep.Slices
import Derived.Deep.Fields
import Derived.ChangeSame
set_option linter.unusedVariables false
namespace Go
variable {H : Type} {enc : TypeId × Value → H}
/-- The wrap by size: a condition of the specification, a condition of my own on the world, and the world's shape. -/
theorem returnsInHanded_of_cond_all {a : Assume} {C : Checked} {os : Os} {f : FuncId} {fn : Func} {s : OpenSpec} {k : (H : Type) → List (DataW H) → Bool} (hk : s.cond = some k) {F : Stop.Interp} {conds : List PathCond} {apart fresh handsOn again : Bool} {X : World → Array Value → Prop}
    (hX : ∀ (w w' : World) (args : Array Value), w.heap = w'.heap → X w args → X w' args)
    (own : ownKnob C.prog.godebug = none) (started : os.Started) (noInit : C.prog.inits.idxOf? f = none) (hfn : C.prog.funcs[f]? = some fn)
    (witness : ∃ (w : World) (tape : Tape) (i : Input), w.os = os ∧ (w.forCall tape i).Shaped C.prog ∧ i.vars = [] ∧ Input.okWide C.prog (w.forCall tape i) .any w.heap.size f i ∧
      ((s.pre enc C.prog fn conds apart (w.forCall tape i).memory i.args ∧ X (w.forCall tape i).memory i.args) ∧ sizedMet enc C.prog fn s apart (w.forCall tape i).memory i.args) ∧ a.holds C.prog (lone (Frame.enter C.prog f i.args .normal) [] (w.forCall tape i)))
    (contract : ∀ (W : World) (base : Nat) (args : Array Value) (ds gs : List (DataW H)) (before : List MemPlace),
      (∀ (j : Nat) t v, fn.params[j]? = some t → args[j]? = some v → Value.okWide C.prog W .any base t v) →
      DataW.Whole enc C.prog fn.params.toList s.vars apart W args.toList ds gs before →
      conds.all (PathCond.test C.prog ⟨fn.params.toList, ds, s.bare.plain.varTypes C.prog, gs⟩) = true → k H (ds ++ gs) = true → X W args → W.ShapedOpen C.prog →
      a.holds C.prog (lone (Frame.enter C.prog f args .normal) [] W) →
      Calls C.prog f args W fun e W' => ∃ v, e = .returned v ∧ (s.at F).post enc C.prog fn apart fresh handsOn again W args v W') :
    ReturnsInHanded a C os f .any (fun w args => (s.pre enc C.prog fn conds apart w args ∧ X w args) ∧ sizedMet enc C.prog fn s apart w args) ((s.at F).post enc C.prog fn apart fresh handsOn again) := by
  refine returnsInHanded_of_calls own started noInit witness ?_
  intro w tape i _ hsh _ hok hpre hholds
  obtain ⟨_, _, _, fn', hfn', _, _, _, _, hval⟩ := hok
  have e : fn' = fn := Option.some.inj (hfn'.symm.trans hfn)
  subst e
  obtain ⟨⟨hp, hx⟩, _⟩ := hpre
  obtain ⟨ds, gs, before, hw, hc, hkk⟩ := (OpenSpec.pre_some hk conds apart _ _).1 hp
  have hw' := DataW.Whole.of_heap (w' := w.forCall tape i) (by rfl) hw
  refine (contract (w.forCall tape i) w.heap.size i.args ds gs before hval hw' hc hkk (hX _ _ _ (by rfl) hx) hsh hholds).mono fun e W' ⟨v, he, hp⟩ => ?_
  subst he
  exact ChangeSpec.post_blind hp
/-- The witness by size. -/
theorem OpenSpec.witness_all {C : Checked} {os : Os} {f : FuncId} {fn : Func} {s : OpenSpec} {k : (H : Type) → List (DataW H) → Bool} (hk : s.cond = some k) {conds : List PathCond} {apart : Bool} {X : World → Array Value → Prop} (modest : Bool) (w0 : World) (args : Array Value) (fuel : Nat) (hos : w0.os = os)
    (hsh : (w0.forCall (fun _ _ => 0) ⟨#[], args, []⟩).Shaped C.prog)
    (hok : Input.okWideB C.prog (w0.forCall (fun _ _ => 0) ⟨#[], args, []⟩) f ⟨#[], args, []⟩ = true)
    {x : List (DataW H) × List (DataW H) × List MemPlace} (hx : DataW.whole enc C.prog (w0.forCall (fun _ _ => 0) ⟨#[], args, []⟩).memory fn.params.toList s.vars apart args.toList fuel = some x)
    (hconds : conds.all (PathCond.test C.prog ⟨fn.params.toList, x.1, s.bare.plain.varTypes C.prog, x.2.1⟩) = true) (hkk : k H (x.1 ++ x.2.1) = true)
    (hsz : s.bare.sizedB enc C.prog fn apart (w0.forCall (fun _ _ => 0) ⟨#[], args, []⟩).memory args fuel = true)
    (hX : X (w0.forCall (fun _ _ => 0) ⟨#[], args, []⟩).memory args) :
    ∃ (w : World) (tape : Tape) (i : Input), w.os = os ∧ (w.forCall tape i).Shaped C.prog ∧ i.vars = [] ∧ Input.okWide C.prog (w.forCall tape i) .any w.heap.size f i ∧
      ((s.pre enc C.prog fn conds apart (w.forCall tape i).memory i.args ∧ X (w.forCall tape i).memory i.args) ∧ sizedMet enc C.prog fn s apart (w.forCall tape i).memory i.args) ∧ ({ modest := modest } : Assume).holds C.prog (lone (Frame.enter C.prog f i.args .normal) [] (w.forCall tape i)) :=
  ⟨w0, fun _ _ => 0, ⟨#[], args, []⟩, hos, hsh, (Input.okWide_of_okWideB (base := 0) hok).1, (Input.okWide_of_okWideB hok).2,
    ⟨⟨(OpenSpec.pre_some hk conds apart _ _).2 ⟨x.1, x.2.1, x.2.2, DataW.Whole_of_whole hx, hconds, hkk⟩, hX⟩, sizedMet_of_sizedB hsz⟩, by
    simp only [Assume.holds]
    exact ⟨by simp, by simp, fun _ => Modest.zero, by simp, by simp⟩⟩
end Go
namespace Go.Proofs.YtaibkpbiccibjaaGreatDoor
open Go.ChangeShapes Go.WideShapes Go.ChangeAt Go.RowKit
open Go.ChangeMaps (open_string shut_string)
theorem own : ownKnob Tryz.prog.godebug = none := by kernel_rfl
theorem laidOut : laidOutB Tryz.prog = true := by kernel_rfl
/-- The list that all rows of this seat lay. -/
def lst : List (String × DataW Unit) := Rows.lexJoinsUptoRow.laid
theorem star : "*errors.errorString" = "*" ++ "errors.errorString" := by decide
theorem typeErr (u : TypeId) (h : Tryz.prog.typeName? 3 u = some "*errors.errorString") : u = 149 :=
  typeName_ptr_named (nm := "errors.errorString") (by rw [← star]; kernel_rfl) (by kernel_rfl) (by decide) u (by rw [← star]; exact h)
theorem space_tab : (Rows.laid_strings_asciiSpace : DataW Unit) = Lib.tabData .u8 Lib.asciiSpaceTab := by kernel_rfl
theorem space_at (c : Nat) (hc : c < 256) : Lib.asciiSpaceTab.getD c 0 = if c = 9 ∨ c = 10 ∨ c = 11 ∨ c = 12 ∨ c = 13 ∨ c = 32 then 1 else 0 := by
  have h : ∀ n : Fin 256, Lib.asciiSpaceTab.getD n.val 0 = if n.val = 9 ∨ n.val = 10 ∨ n.val = 11 ∨ n.val = 12 ∨ n.val = 13 ∨ n.val = 32 then 1 else 0 := by decide +kernel
  exact h ⟨c, hc⟩
theorem laidL_of {W : World} (hL : laidMetH Tryz.prog lst W) (hsh : W.ShapedOpen Tryz.prog) : PAll.LaidL W := by
  rw [MakeChecks.laidMetH_plain _ _ _ (by kernel_rfl)] at hL
  have h4 := Go.laidMet.tail (Go.laidMet.tail (Go.laidMet.tail (Go.laidMet.tail hL)))
  have h7 := Go.laidMet.tail (Go.laidMet.tail (Go.laidMet.tail h4))
  refine ⟨?_, ?_⟩
  · have h7' : laidMet Tryz.prog (("strings.asciiSpace", Lib.tabData .u8 Lib.asciiSpaceTab) :: [("unicode.CaseRanges", Rows.laid_unicode_CaseRanges), ("unicode/utf8.first", Rows.laid_unicode_utf8_first)]) W := by
      rw [← space_tab]; exact h7
    have hT := Lib.tabIs_of_head (g := 0) (t := 87) (n := 256) (e := 5) (by kernel_rfl) (by kernel_rfl) (by kernel_rfl) (by kernel_rfl) (by kernel_rfl) (by kernel_rfl) h7'
    intro c hc
    have := hT.cell (g := 0) (by kernel_rfl) c (by rw [Lib.asciiSpaceTab_length]; exact hc)
    rw [this, space_at c hc]
  · obtain ⟨a, s, hv, hc, hs, hz⟩ := laid_sentinel (g := 8) (ti := 44) (tp := 149) (te := 151) (ts := 9) h4 (by kernel_rfl) (by kernel_rfl) Tryz.underlying44 typeErr Tryz.underlying149 Tryz.underlying151 rfl rfl Tryz.underlying9 (by kernel_rfl) (by kernel_rfl)
    have := World.var?_cell (show Tryz.prog.globalNamed "strconv.ErrRange" = some 8 by kernel_rfl) hv 0
    exact ⟨_, _, by simpa using this⟩
end Go.Proofs.YtaibkpbiccibjaaGreatDoor

set_option linter.unusedVariables false
namespace Go.Proofs.YtaibkpbiccibjaaGreatDoor
open Go.ChangeShapes Go.WideShapes Go.Deep Go.RowKit
open Go.Proofs.YtaibkpbiccibjaaGreatDoorW.PrintWords Go.Proofs.YtaibkpbiccibjaaGreatDoorW.PrintLast Go.Proofs.YtaibkpbiccibjaaGreatDoorW.PrintMore Go.Proofs.YtaibkpbiccibjaaGreatDoor.PAll

section
variable {H : Type} {enc : TypeId × Value → H} {P : Program} {w : World} {base : Nat} {spare : Nat → Bool} {held : Bool}
theorem open_slice_fields {t e : TypeId} {fs : Array Field} {fuel : Nat} {cs : List Value} {x : DataW H × List MemPlace} (ht : P.underlying t = some (.slice e)) (he : P.underlying e = some (.struct fs))
    (hone : oneCellFields P fs = true) (hC : P.cellsOf e = fs.size) (h : DataW.trod enc P w base spare held fuel t cs = some x) :
    (cs = [.slice none 0 0] ∧ x = (.nil, [])) ∨
    ∃ (a : Addr) (len cap m : Nat) (D : Nat → DataW H) (Pl : Nat → List MemPlace), cs = [.slice (some a) len cap] ∧ base ≤ a.block ∧ len ≤ cap ∧ cap ≤ maxLen ∧ m = (if spare a.block then cap else len) ∧
      x = (.slice ((List.range len).map D) ((List.range (m - len)).map fun j => D (len + j)), MemPlace.row a (m * fs.size) ++ (List.range m).flatMap Pl) ∧
      ∀ i, i < m → ∃ (ys : List (DataW H × List MemPlace)) (n : Nat), D i = .agg (ys.map (·.1)) ∧ Pl i = ys.flatMap (·.2) ∧ ys.length = fs.size ∧
        ∀ (j : Nat) (f : Field), fs[j]? = some f → ∃ (v : Value) (y : DataW H × List MemPlace), w.cell? (a.add (i * fs.size + j)) = some v ∧ ys[j]? = some y ∧ DataW.trod enc P w base spare held n f.type [v] = some y := by
  rcases open_slice ht h with h0 | ⟨a, len, cap, m, n, D, Pl, hcs, hb, hl, hm, hmm, hx, hi⟩
  · exact .inl h0
  · refine .inr ⟨a, len, cap, m, D, Pl, hcs, hb, hl, hm, hmm, by rw [hC] at hx; exact hx, fun i him => ?_⟩
    obtain ⟨cs', hc, ht'⟩ := hi i him
    rw [hC] at hc
    obtain ⟨ys, n', hn', hy, hlen, hyl, hf⟩ := DataW.trod_struct he ht'
    obtain ⟨_, hcl, hat⟩ := World.cells?_some hc
    simp only [Prod.mk.injEq] at hy
    refine ⟨ys, n', hy.1, hy.2, hyl, fun j f hj => ?_⟩
    obtain ⟨ho, hk⟩ := hone_of hone j f hj
    have hjl : j < fs.size := (Array.getElem?_eq_some_iff.1 hj).1
    have hcell := hat j hjl
    have hv : cs'[j]? = some (cs'[j]'(by omega)) := List.getElem?_eq_getElem (by omega)
    have h1 := hf j f hj
    rw [ho, hk] at h1
    have hone' : (cs'.drop j).take 1 = [cs'[j]'(by omega)] := by
      rw [List.drop_eq_getElem_cons (by omega)]
      rfl
    rw [hone'] at h1
    have hys : ys[j]? = some (ys[j]'(by omega)) := List.getElem?_eq_getElem (by omega)
    refine ⟨_, _, ?_, hys, h1.trans hys⟩
    rw [← Go.Deep.add_add, hcell, hv]
end

theorem tok_cells {H : Type} {enc : TypeId × Value → H} {w : World} {fs : Array Field} {a : Addr} {i : Nat} {D : Nat → DataW H} {Pl : Nat → List MemPlace}
    (hfs : fs.map (·.type) = #[32, 9, 3])
    (h : ∃ (ys : List (DataW H × List MemPlace)) (n : Nat), D i = .agg (ys.map (·.1)) ∧ Pl i = ys.flatMap (·.2) ∧ ys.length = fs.size ∧
        ∀ (j : Nat) (f : Field), fs[j]? = some f → ∃ (v : Value) (y : DataW H × List MemPlace), w.cell? (a.add (i * fs.size + j)) = some v ∧ ys[j]? = some y ∧ DataW.trod enc Tryz.prog w 0 (fun _ => true) true n f.type [v] = some y) :
    ∃ x : S33, Rows.uptoBulk (D i) = x.f1.size + 4 ∧ k33.K w x [.int .u8 x.f0, .string x.f1, .int .i64 x.f2] ∧
      ∀ j u, ([.int .u8 x.f0, .string x.f1, .int .i64 x.f2] : List Value)[j]? = some u → w.cell? (a.add (i * 3 + j)) = some u := by
  obtain ⟨ys, n, hD, _, hlen, hf⟩ := h
  have hs : fs.size = 3 := by have := congrArg Array.size hfs; simpa using this
  rw [hs] at hf hlen
  have g0 : (fs[0]'(by omega)).type = 32 := by have := congrArg (·[0]?) hfs; simpa [hs] using this
  have g1 : (fs[1]'(by omega)).type = 9 := by have := congrArg (·[1]?) hfs; simpa [hs] using this
  have g2 : (fs[2]'(by omega)).type = 3 := by have := congrArg (·[2]?) hfs; simpa [hs] using this
  obtain ⟨v0, y0, c0, q0, t0⟩ := hf 0 _ (Array.getElem?_eq_getElem (by omega))
  obtain ⟨v1, y1, c1, q1, t1⟩ := hf 1 _ (Array.getElem?_eq_getElem (by omega))
  obtain ⟨v2, y2, c2, q2, t2⟩ := hf 2 _ (Array.getElem?_eq_getElem (by omega))
  rw [g0] at t0
  rw [g1] at t1
  rw [g2] at t2
  obtain ⟨x0, e0, d0, w0⟩ := DataW.trod_int Tryz.underlying32 t0
  obtain ⟨x1, e1, d1, w1⟩ := DataW.trod_string Tryz.underlying9 t1
  obtain ⟨x2, e2, d2, w2⟩ := DataW.trod_int Tryz.underlying3 t2
  simp at e0 e1 e2
  subst e0 e1 e2
  have hys : ys = [y0, y1, y2] := by
    clear hD hf
    match ys, hlen, q0, q1, q2 with
    | [p, q, r], _, q0, q1, q2 =>
      have e0 : p = y0 := Option.some.inj q0
      have e1 : q = y1 := Option.some.inj q1
      have e2 : r = y2 := Option.some.inj q2
      rw [e0, e1, e2]
  refine ⟨⟨x0, x1, x2⟩, ?_, k33_mk _ _, ?_⟩
  · rw [hD, hys, d0, d1, d2]
    simp [Rows.uptoBulk, Rows.uptoBulkAll]
    omega
  · intro j u hj
    match j with
    | 0 => simp at hj; subst hj; exact c0
    | 1 => simp at hj; subst hj; exact c1
    | 2 => simp at hj; subst hj; exact c2
    | j + 3 => simp at hj

theorem bulk_map {H : Type} {D : Nat → DataW H} {f : Nat → S33} (l : List Nat) (h : ∀ i ∈ l, Rows.uptoBulk (D i) = (f i).f1.size + 4) : Rows.uptoBulkAll (l.map D) = bulkT (l.map f) := by
  induction l with
  | nil => rfl
  | cons i l ih =>
    rw [List.map_cons, List.map_cons]
    simp only [Rows.uptoBulkAll, bulkT]
    rw [h i (by simp), ih (fun j hj => h j (by simp [hj]))]

set_option maxRecDepth 100000 in
theorem open_toks {H : Type} {enc : TypeId × Value → H} {w : World} {v : Value} {d : DataW H} {p : List MemPlace} (hv : Value.okWide Tryz.prog w .any 0 22 v)
    (h : DataW.Trod enc Tryz.prog w 0 (fun _ => true) true 22 v d p) :
    ∃ (A : Option Addr) (cap : Nat) (l : List S33), v = .slice A l.length cap ∧ l.length ≤ cap ∧ k33.C w A l.length l ∧ bulkT l ≤ Rows.uptoBulk d := by
  obtain ⟨A0, len0, cap0, rfl⟩ := okWide_slice Tryz.underlying22 hv
  obtain ⟨fuel, hf⟩ := h
  rcases open_slice_fields (t := 22) (e := 34) Tryz.underlying22 Tryz.underlying34 (by kernel_rfl) (by kernel_rfl) hf with ⟨hcs, hx⟩ | ⟨a, len, cap, m, D, Pl, hcs, hb, hl, hm, hmm, hx, hi⟩
  · have hcs' : (Value.slice A0 len0 cap0) = .slice none 0 0 := by simpa [Value.cells] using hcs
    rw [hcs']
    exact ⟨none, 0, [], rfl, Nat.le_refl _, ⟨rfl, by simp, fun h => by simp at h⟩, Nat.zero_le _⟩
  · have hcs' : (Value.slice A0 len0 cap0) = .slice (some a) len cap := by simpa [Value.cells] using hcs
    rw [hcs']
    have hmc : m = cap := by simpa using hmm
    have key : ∀ i, i < len → ∃ x : S33, Rows.uptoBulk (D i) = x.f1.size + 4 ∧ k33.K w x [.int .u8 x.f0, .string x.f1, .int .i64 x.f2] ∧
        ∀ j u, ([.int .u8 x.f0, .string x.f1, .int .i64 x.f2] : List Value)[j]? = some u → w.cell? (a.add (i * 3 + j)) = some u :=
      fun i h => tok_cells (by simp) (hi i (by omega))
    let f : Nat → S33 := fun i => if h : i < len then Classical.choose (key i h) else z33
    have hf : ∀ i, i < len → Rows.uptoBulk (D i) = (f i).f1.size + 4 ∧ k33.K w (f i) [.int .u8 (f i).f0, .string (f i).f1, .int .i64 (f i).f2] ∧
        ∀ j u, ([.int .u8 (f i).f0, .string (f i).f1, .int .i64 (f i).f2] : List Value)[j]? = some u → w.cell? (a.add (i * 3 + j)) = some u := by
      intro i h
      have := Classical.choose_spec (key i h)
      simp only [f, dif_pos h]
      exact this
    have hlen : ((List.range len).map f).length = len := by simp
    refine ⟨some a, cap, (List.range len).map f, by rw [hlen], by rw [hlen]; exact hl, ⟨rfl, ?_, fun _ => ⟨a, rfl, ?_⟩⟩, ?_⟩
    · rw [hlen]; have : maxLen = 9223372036854775807 := by decide
      omega
    · intro j x hj
      have hjl : j < len := by
        have := (List.getElem?_eq_some_iff.1 hj).1
        simpa using this
      have : x = f j := by
        rw [List.getElem?_map, List.getElem?_range hjl] at hj
        simpa using hj.symm
      subst this
      exact ⟨_, rfl, (hf j hjl).2.1, (hf j hjl).2.2⟩
    · rw [(Prod.mk.inj hx).1]
      have := bulk_map (D := D) (f := f) (List.range len) (fun i hi' => (hf i (List.mem_range.1 hi')).1)
      rw [← this]
      simp only [Rows.uptoBulk]
      omega
end Go.Proofs.YtaibkpbiccibjaaGreatDoor
