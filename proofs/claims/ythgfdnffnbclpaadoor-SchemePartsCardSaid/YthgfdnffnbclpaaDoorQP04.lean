import Derived.Maps.OwnSet
import Derived.DeepKeys3
import Derived.Test.YthgfdnffnbclpaaDoorQP03
import Derived.DeepKeys4
import Derived.Maps.OwnOps
import Derived.Test.YthgfdnffnbclpaaDoorRows
import Derived.Test.YthgfdnffnbclpaaDoorCards
import Derived.Test.YthgfdnffnbclpaaDoorTie
import Derived.WalkKit
import Derived.ProofKit
import Derived.OpenShut
import Derived.ShutString
import Derived.ChangeOld
import Derived.Below
import Derived.Carry
import Derived.SizedLaws
import Derived.HandedShaped
import Derived.Lib.SmallJoins
import Derived.Lib.LaidTab
import Derived.Shelf.Vars
import Derived.Lay
import Derived.LaidOnce
import Derived.SevenTiedAt
import Derived.Stop.LaidErr
import Derived.Deep.Slices
import Derived.Deep.Fields
import Derived.ChangeSame
import Derived.RangeFuncNested
import Derived.RangeFuncBound
import Derived.RangeFuncCalls
import Derived.RangeFuncLeaves
import Derived.RangeFuncFrom
import Derived.RangeFuncBox
import Derived.Shelf.Abstract
import Derived.Shelf.RegionOpen
import Derived.OwnWalkIn
import Derived.TacticsInMore
import Derived.LoopNIn
import Derived.LoopIn
set_option linter.unusedVariables false
set_option linter.unusedSimpArgs false
namespace Go.Proofs.YthgfdnffnbclpaaDoor.PAll
open Go Go.ChangeMaps Go.MapKept Go.RowKit
open Go.WideElems (Fit rd rg pl rd_val elemAt)
open Go.Maps (Keyed)

/-- How a set's elements read. -/
def boolR : Value → Option (DataW Unit × List MemPlace)
  | .bool true => some (.lit (.bool true), [])
  | _ => none
theorem boolR_inv {v : Value} {z : DataW Unit × List MemPlace} (h : boolR v = some z) : v = .bool true := by
  unfold boolR at h
  split at h
  · rfl
  · cases h

section
variable {P : Program} {k t e : TypeId} {w : World} {b : Nat} {R : Value → Option (DataW Unit × List MemPlace)} {S : List Value}
/-- Block b of w is a map that holds just the keys of S. -/
def SetM (P : Program) (k : TypeId) (R : Value → Option (DataW Unit × List MemPlace)) (w : World) (b : Nat) (S : List Value) : Prop :=
  ∃ D : DataW Unit, w.ownsMap P k R b S.length D ∧ ∀ v l, keyOf P k v = some l → (Maps.has D l = true ↔ v ∈ S)

theorem SetM.made (w : World) : SetM P k R (w.alloc (.map #[] 0)) w.heap.size [] :=
  ⟨.map [], World.ownsMap_made w P k R, fun v l _ => by simp [Maps.has]⟩
theorem SetM.kept {w' : World} (h : SetM P k R w b S) (hb : w'.heap[b]? = w.heap[b]?) : SetM P k R w' b S := by
  obtain ⟨D, ⟨es, clock, h1, h2⟩, hD⟩ := h
  exact ⟨D, ⟨es, clock, hb.trans h1, h2⟩, hD⟩
theorem SetM.block (h : SetM P k R w b S) : ∃ es clock, w.heap[b]? = some (.map es clock) := by
  obtain ⟨D, ⟨es, clock, h1, h2⟩, hD⟩ := h
  exact ⟨es, clock, h1⟩

/-- 'm[k]' where the elements are true. -/
theorem SetM.look_bool (h : SetM P k boolR w b S) (K : Keyed P k) (ht : P.underlying t = some (.map k e)) (hz : (zeroValue e).run P w = .ok (.bool false) w) {key : Value} {kl : Lit} (hkey : keyOf P k key = some kl) (m : Bool) (hm : m = true ↔ key ∈ S) :
    (Instr.lookup t (.map (some b)) key false).run P w = .ok (.bool m) w := by
  obtain ⟨D, ⟨es, clock, hb, F, hs, rfl⟩, hD⟩ := h
  rcases Maps.fit_look false K ht hz hb F hkey with ⟨hrun, _, hat⟩ | ⟨e0, y, _, _, hrun, hRv, hat, _⟩
  · have h0 := Maps.has_false_of_atKey hat
    have hm' : m = false := by
      cases m
      · rfl
      · have := (hD _ _ hkey).2 (hm.1 rfl)
        rw [h0] at this
        cases this
    rw [hm']
    exact hrun
  · have h0 := Maps.has_true_of_atKey hat
    have hm' : m = true := hm.2 ((hD _ _ hkey).1 h0)
    rw [hm', ← boolR_inv hRv]
    exact hrun
/-- '_, ok := m[k]' of a map[K]struct{}. -/
theorem SetM.look_unit (h : SetM P k (unitElem (H := Unit)) w b S) (K : Keyed P k) (ht : P.underlying t = some (.map k e)) (hz : (zeroValue e).run P w = .ok (.agg #[]) w) {key : Value} {kl : Lit} (hkey : keyOf P k key = some kl) (m : Bool) (hm : m = true ↔ key ∈ S) :
    (Instr.lookup t (.map (some b)) key true).run P w = .ok (.tuple #[.agg #[], .bool m]) w := by
  obtain ⟨D, ho, hD⟩ := h
  obtain ⟨v, ps, hrun, hv⟩ := ho.look_ok K ht hz (zd := .agg []) (zp := []) unitElem_mk hkey
  obtain ⟨rfl, _⟩ := unitElem_inv hv
  have : m = Maps.has D kl := by
    cases hh : Maps.has D kl with
    | true => exact hm.2 ((hD _ _ hkey).1 hh)
    | false =>
      cases m with
      | false => rfl
      | true => have := (hD _ _ hkey).2 (hm.1 rfl); rw [hh] at this; cases this
  rw [this]
  exact hrun
/-- 'm[k] = v'. -/
theorem SetM.store (h : SetM P k R w b S) (K : Keyed P k) (ht : P.underlying t = some (.map k e)) (hn : S.length < maxLen) {key val : Value} {kl : Lit} {d : DataW Unit} {ps : List MemPlace}
    (hkey : keyOf P k key = some kl) (hv : R val = some (d, ps)) : ∃ w', (Instr.mapUpdate t (.map (some b)) key val).run P w = .ok () w' ∧ SetM P k R w' b (key :: S) ∧ w.mapTurned w' b := by
  obtain ⟨D, ho, hD⟩ := h
  obtain ⟨w', h1, h2, h3⟩ := ho.store K ht hn hkey hv
  refine ⟨w', h1, ⟨_, h2, fun v l hl => ?_⟩, h3⟩
  by_cases he : v = key
  · subst he
    obtain rfl : kl = l := Option.some.inj (hkey.symm.trans hl)
    rw [Maps.has_put_same ho.isMap (K.key hkey) d]
    simp
  · have hne : l ≠ kl := fun e' => he (K.inj hl (e' ▸ hkey))
    rw [Maps.has_put_other hne d, hD v l hl]
    simp [he]
end

section
variable {P : Program} (w : World) {ops : Array Oper} {rest : List Oper} {o : Oper} {a : Act} {Q : Exit → Act → World → Prop}
/-- A look-up at the operation, by its run. -/
theorem wpList_look_run (hg : o.guard = none) (m x : Operand) (t : TypeId) (c : Bool) (hop : o.op = Op.lookup t m x c) {mv key r : Value} (hm : a.eval m = mv) (hx : a.eval x = key)
    (hrun : (Instr.lookup t mv key c).run P w = .ok r w) (hK : wpList P ops Q rest (a.put o.dst r) w) : wpList P ops Q (o :: rest) a w := by
  refine wpList_plain hg fun K' hK' => ?_
  unfold Oper.wp
  simp [execOp, hop, hm, hx, hrun, Result.andThen]
  exact hK' _ _ hK
/-- A store at the operation, by its run. -/
theorem wpList_store_run (hg : o.guard = none) (m x v : Operand) (t : TypeId) (hop : o.op = Op.mapUpdate t m x v) {mv key val : Value} {w' : World} (hm : a.eval m = mv) (hx : a.eval x = key) (hv : a.eval v = val)
    (hrun : (Instr.mapUpdate t mv key val).run P w = .ok () w') (hK : wpList P ops Q rest (a.put o.dst undef) w') : wpList P ops Q (o :: rest) a w := by
  refine wpList_plain hg fun K' hK' => ?_
  unfold Oper.wp
  simp [execOp, hop, hm, hx, hv, hrun, Result.andThen]
  exact hK' _ _ hK
end
end Go.Proofs.YthgfdnffnbclpaaDoor.PAll
namespace Go.Proofs.YthgfdnffnbclpaaDoor.PAll
open Go.RowKit Go.Proofs.YthgfdnffnbclpaaDoorW.PrintWords Go.Proofs.YthgfdnffnbclpaaDoorW.PrintLast Go.Proofs.YthgfdnffnbclpaaDoorW.PrintMore
section
variable {P : Program} {ops : Array Oper} {Q : Exit → Act → World → Prop}
/-- The operation is a call of what lies at x. -/
theorem gate_value {rest : List Oper} {o : Oper} {a : Act} {W : World} {x : Operand} {xs : Array Operand} {ts : Array TypeId} (_ho : o.op = .call { callee := .value x, args := xs, argTypes := ts }) (h : wpList P ops Q (o :: rest) a W) : wpList P ops Q (o :: rest) a W := h
/-- A call of a function value (no receiver, nothing captured) in a plain region. -/
theorem goesV_ {rest : List Oper} {oi : Oper} {a : Act} {w : World} (N : Option Tmp) (x : Operand) (hd : oi.dst = N) (hg : oi.guard = none) {f : FuncId} {fn : Func} {xs : Array Operand} {ts : Array TypeId} (hf : P.funcs[f]? = some fn) (hname : (fn.name == "runtime.NumGoroutine") = false) (hb : fn.body.isSome = true) (args : Array Value)
    (hop : oi.op = .call { callee := .value x, args := xs, argTypes := ts }) (hargs : xs.map a.eval = args)
    (h : Calls P f args w fun e w' => ∃ v, e = .returned v ∧ wpList P ops Q rest (a.put N v) w') (hx : a.eval x = .func (.func f) #[] #[] := by rfl) : wpList P ops Q (oi :: rest) a w := by
  refine wpList_plain hg fun K hK => ?_
  have he := enters_ hf hname hb args w
  have hrun : (execOp a.eval oi).run P w = .ok (.enter f args) w := by
    unfold execOp
    simp [hop, resolve, Deferred.ofValue, invoke, hargs, he, hx]
  unfold Oper.wp
  rw [hrun, Oper.upon_enter]
  refine h.mono fun e w'' hh => ?_
  obtain ⟨v, rfl, hk⟩ := hh
  subst hd
  exact hK _ _ hk
end
end Go.Proofs.YthgfdnffnbclpaaDoor.PAll
namespace Go.Proofs.YthgfdnffnbclpaaDoor.PAll
open Go.RowKit Go.Proofs.YthgfdnffnbclpaaDoorW.PrintWords Go.Proofs.YthgfdnffnbclpaaDoorW.PrintLast Go.Proofs.YthgfdnffnbclpaaDoorW.PrintMore

def wfV (x : S64) : Prop := (Lit.int .u8 x.f0).wf = true ∧ (Lit.int .i64 x.f1).wf = true ∧ x.f2.size ≤ maxLen
theorem laidOutS : laidOutB Tryd.prog = true := by kernel_rfl
theorem key90 : Maps.Keyed Tryd.prog 90 := Maps.Keyed.of_law (deep_law_laid laidOutS (m := 9) (by omega) (by decide +kernel) (by kernel_rfl) (by kernel_rfl))
theorem c62 : Tryd.prog.cellsOf 62 = 1 := by kernel_rfl
theorem c2 : Tryd.prog.cellsOf 2 = 1 := by kernel_rfl
theorem c9 : Tryd.prog.cellsOf 9 = 1 := by kernel_rfl
theorem c64 : Tryd.prog.cellsOf 64 = 3 := by kernel_rfl
theorem c90 : Tryd.prog.cellsOf 90 = 24 := by kernel_rfl
theorem keyL64 (d : Nat) (x : S64) (h : wfV x) : ∃ L, Tryd.prog.keyLits (d + 2) 64 (cellsV x) = some L := by
  obtain ⟨h0, h1, h2⟩ := h
  have e : Tryd.prog.keyLits (d + 2) 64 (cellsV x) = some [.int .u8 x.f0, .int .i64 x.f1, .string x.f2.data.toList] := by
    simp [Program.keyLits, Tryd.underlying64, Tryd.underlying62, Tryd.underlying2, Tryd.underlying9, cellsV, c62, c2, c9, c64, h0, h1, h2]
  exact ⟨_, e⟩
theorem mapM_some {α β : Type} (f : α → Option β) : ∀ l : List α, (∀ x ∈ l, ∃ y, f x = some y) → ∃ r, l.mapM f = some r
  | [], _ => ⟨[], rfl⟩
  | x :: l, h => by
    obtain ⟨y, hy⟩ := h x (by simp)
    obtain ⟨r, hr⟩ := mapM_some f l (fun z hz => h z (by simp [hz]))
    exact ⟨y :: r, by simp [List.mapM_cons, hy, hr]⟩
theorem tup_part (t : List S64) (i : Nat) (hi : i < t.length) : ((tupC t).drop (i * 3)).take 3 = cellsV t[i] := by
  apply List.ext_getElem?
  intro j
  rw [List.getElem?_take]
  by_cases hj : j < 3
  · rw [if_pos hj, List.getElem?_drop, show i * 3 + j = 3 * i + j by omega, tupC_at t i j hj, List.getElem?_eq_getElem hi]; rfl
  · rw [if_neg hj]
    have : (cellsV t[i]).length = 3 := rfl
    rw [List.getElem?_eq_none (by omega)]
theorem key_tup (t : List S64) (h8 : t.length = 8) (hw : ∀ x ∈ t, wfV x) : ∃ l, keyOf Tryd.prog 90 (.agg (tupC t).toArray) = some l := by
  obtain ⟨d, hd⟩ : ∃ d, Tryd.prog.types.size + 1 = d + 3 := by
    have : 2 ≤ Tryd.prog.types.size := by decide +kernel
    exact ⟨Tryd.prog.types.size - 2, by omega⟩
  have h1 : ∃ L, Tryd.prog.keyLits (d + 3) 90 (tupC t) = some L := by
    obtain ⟨r, hr⟩ := mapM_some (fun i => Tryd.prog.keyLits (d + 2) 64 (((tupC t).drop (i * 3)).take 3)) (List.range 8) (fun i hi => by
      have hi8 : i < t.length := by rw [h8]; exact List.mem_range.1 hi
      simp only [tup_part t i hi8]
      exact keyL64 d _ (hw _ (List.getElem_mem hi8)))
    have hu : Tryd.prog.underlying 90 = some (.array 8 64) := Tryd.underlying90
    refine ⟨r.flatten, ?_⟩
    rw [Program.keyLits.eq_def]
    simp only [hu, tupC_len, h8, c90, c64, hr]
    rfl
  obtain ⟨L, hL⟩ := h1
  have hk : Tryd.prog.keyType 90 = true := by kernel_rfl
  have hf : (Value.agg (tupC t).toArray).formed Tryd.prog 90 = true := by
    unfold Value.formed
    simp only [Tryd.underlying90, List.size_toArray, tupC_len, h8, c90]
    rfl
  unfold keyOf
  simp only [Tryd.underlying90, hk, hf, hd, Value.cells]
  exact ⟨.string (keyBytes L), by simp [hL]⟩
end Go.Proofs.YthgfdnffnbclpaaDoor.PAll
namespace Go
variable {H : Type} {enc : TypeId × Value → H}
/-- The wrap with a condition of my own on the world AND the world's shape AND the reach. -/
theorem returnsInHanded_of_change_all {a : Assume} {C : Checked} {os : Os} {f : FuncId} {fn : Func} {s : ChangeSpec} {conds : List PathCond} {apart fresh handsOn again : Bool} {X : World → Array Value → Prop}
    (hX : ∀ (w w' : World) (args : Array Value), w.heap = w'.heap → X w args → X w' args)
    (own : ownKnob C.prog.godebug = none) (started : os.Started) (noInit : C.prog.inits.idxOf? f = none) (hfn : C.prog.funcs[f]? = some fn)
    (witness : ∃ (w : World) (tape : Tape) (i : Input), w.os = os ∧ (w.forCall tape i).Shaped C.prog ∧ i.vars = [] ∧ Input.okWide C.prog (w.forCall tape i) .any w.heap.size f i ∧
      ((s.pre enc C.prog fn conds apart (w.forCall tape i).memory i.args ∧ X (w.forCall tape i).memory i.args) ∧ sizedMet enc C.prog fn (OpenSpec.ofChange s) apart (w.forCall tape i).memory i.args) ∧ a.holds C.prog (lone (Frame.enter C.prog f i.args .normal) [] (w.forCall tape i)))
    (contract : ∀ (W : World) (base : Nat) (args : Array Value) (ds gs : List (DataW H)) (before : List MemPlace),
      (∀ (j : Nat) t v, fn.params[j]? = some t → args[j]? = some v → Value.okWide C.prog W .any base t v) →
      DataW.Whole enc C.prog fn.params.toList s.vars apart W args.toList ds gs before →
      conds.all (PathCond.test C.prog ⟨fn.params.toList, ds, s.plain.varTypes C.prog, gs⟩) = true →
      (DataW.weightsEach C.prog (fn.params.toList ++ s.plain.varTypes C.prog) (ds ++ gs)).all (· ≤ reachBytes) = true → X W args → W.ShapedOpen C.prog →
      a.holds C.prog (lone (Frame.enter C.prog f args .normal) [] W) →
      Calls C.prog f args W fun e W' => ∃ v, e = .returned v ∧ s.post enc C.prog fn apart fresh handsOn again W args v W') :
    ReturnsInHanded a C os f .any (fun w args => (s.pre enc C.prog fn conds apart w args ∧ X w args) ∧ sizedMet enc C.prog fn (OpenSpec.ofChange s) apart w args) (s.post enc C.prog fn apart fresh handsOn again) := by
  refine returnsInHanded_of_calls own started noInit witness ?_
  intro w tape i _ hsh _ hok hpre hholds
  obtain ⟨_, _, _, fn', hfn', _, _, _, _, hval⟩ := hok
  have e : fn' = fn := Option.some.inj (hfn'.symm.trans hfn)
  subst e
  obtain ⟨⟨⟨ds, gs, before, hw, hc⟩, hx⟩, hz⟩ := hpre
  have hw' := DataW.Whole.of_heap (w' := w.forCall tape i) (by rfl) hw
  refine (contract (w.forCall tape i) w.heap.size i.args ds gs before hval hw' hc (hz.weights hw) (hX _ _ _ (by rfl) hx) hsh hholds).mono fun e W' ⟨v, he, hp⟩ => ?_
  subst he
  exact ChangeSpec.post_blind hp
end Go
namespace Go.Proofs.YthgfdnffnbclpaaDoor
open Go.ChangeShapes Go.WideShapes Go.ChangeAt Go.RowKit
open Go.ChangeMaps (open_string shut_string)
theorem own : ownKnob Tryd.prog.godebug = none := by kernel_rfl
theorem laidOut : laidOutB Tryd.prog = true := by kernel_rfl
/-- The list that all rows of this seat lay. -/
def lst : List (String × DataW Unit) := Rows.schemeValidsRow.laid
theorem space_tab : (Rows.laid_strings_asciiSpace : DataW Unit) = Lib.tabData .u8 Lib.asciiSpaceTab := by kernel_rfl
theorem space_at (c : Nat) (hc : c < 256) : Lib.asciiSpaceTab.getD c 0 = if c = 9 ∨ c = 10 ∨ c = 11 ∨ c = 12 ∨ c = 13 ∨ c = 32 then 1 else 0 := by
  have h : ∀ n : Fin 256, Lib.asciiSpaceTab.getD n.val 0 = if n.val = 9 ∨ n.val = 10 ∨ n.val = 11 ∨ n.val = 12 ∨ n.val = 13 ∨ n.val = 32 then 1 else 0 := by decide +kernel
  exact h ⟨c, hc⟩
theorem laidL_of {W : World} (hL : laidMetH Tryd.prog lst W) : PAll.LaidL W := by
  rw [MakeChecks.laidMetH_plain _ _ _ (by kernel_rfl)] at hL
  have h7 := Go.laidMet.tail (Go.laidMet.tail hL)
  refine ⟨?_⟩
  have h7' : laidMet Tryd.prog (("strings.asciiSpace", Lib.tabData .u8 Lib.asciiSpaceTab) :: [("unicode.CaseRanges", Rows.laid_unicode_CaseRanges), ("unicode/utf8.first", Rows.laid_unicode_utf8_first)]) W := by
    rw [← space_tab]; exact h7
  have hT := Lib.tabIs_of_head (g := 0) (t := 136) (n := 256) (e := 5) (by kernel_rfl) (by kernel_rfl) (by kernel_rfl) (by kernel_rfl) (by kernel_rfl) (by kernel_rfl) h7'
  intro c hc
  have := hT.cell (g := 0) (by kernel_rfl) c (by rw [Lib.asciiSpaceTab_length]; exact hc)
  rw [this, space_at c hc]
end Go.Proofs.YthgfdnffnbclpaaDoor
namespace Go.Proofs.YthgfdnffnbclpaaDoor
open Go.ChangeShapes Go.WideShapes Go.Deep Go.RowKit
open Go.Proofs.YthgfdnffnbclpaaDoorW.PrintWords Go.Proofs.YthgfdnffnbclpaaDoorW.PrintLast Go.Proofs.YthgfdnffnbclpaaDoorW.PrintMore Go.Proofs.YthgfdnffnbclpaaDoor.PAll

section
variable {H : Type} (enc : TypeId × Value → H) (w : World)
/-- What reads at type t is of the kind d, and ok. -/
def OpK {α : Type} (d : Kd α) (t : TypeId) (ok : α → Prop) : Prop := ∀ n cs y, DataW.trod enc Tryd.prog w 0 (fun _ => true) true n t cs = some y → ∃ x, d.K w x cs ∧ ok x
variable {enc w}
theorem opk_int {t : TypeId} {k : IntKind} (ht : Tryd.prog.underlying t = some (.int k)) : OpK enc w (Kd.int k) t (fun n => (Lit.int k n).wf = true) := fun n cs y h => by
  obtain ⟨x, hc, _, hw⟩ := DataW.trod_int ht h
  exact ⟨x, hc, hw⟩
theorem opk_slice {α : Type} {d : Kd α} {t e : TypeId} {ok : α → Prop} (ht : Tryd.prog.underlying t = some (.slice e)) (hsz : Tryd.prog.cellsOf e = d.sz) (hd : OpK enc w d e ok) : OpK enc w (Kd.slice e d) t (fun xs => xs.length ≤ maxLen ∧ ∀ x ∈ xs, ok x) := fun n cs y h => by
  rcases open_slice ht h with ⟨hcs, _⟩ | ⟨a, len, cap, m, n', D, Pl, hcs, hb, hl, hm, hmm, _, hi⟩
  · exact ⟨[], ⟨none, 0, hcs, Nat.le_refl _, ⟨rfl, by simp, fun h => by simp at h⟩⟩, by simp, fun x hx => by cases hx⟩
  · have hmc : m = cap := by simpa using hmm
    have key : ∀ i, i < len → ∃ (x : α) (c : List Value), d.K w x c ∧ ok x ∧ ∀ j u, c[j]? = some u → w.cell? (a.add (i * d.sz + j)) = some u := fun i hil => by
      obtain ⟨cs', hc, ht'⟩ := hi i (by omega)
      rw [hsz] at hc
      obtain ⟨x, hK, ho⟩ := hd _ _ _ ht'
      obtain ⟨_, hcl, hat⟩ := World.cells?_some hc
      refine ⟨x, cs', hK, ho, fun j u hj => ?_⟩
      have hjl : j < d.sz := by rw [← hcl]; exact (List.getElem?_eq_some_iff.1 hj).1
      rw [← Go.Deep.add_add, hat j hjl, hj]
    by_cases h0 : len = 0
    · subst h0
      exact ⟨[], ⟨some a, cap, hcs, Nat.zero_le _, ⟨rfl, by simp, fun h => by simp at h⟩⟩, by simp, fun x hx => by cases hx⟩
    obtain ⟨x0, _⟩ := key 0 (by omega)
    let f : Nat → α := fun i => if h : i < len then Classical.choose (key i h) else x0
    have hf : ∀ i, i < len → ∃ c, d.K w (f i) c ∧ ok (f i) ∧ ∀ j u, c[j]? = some u → w.cell? (a.add (i * d.sz + j)) = some u := by
      intro i h
      have := Classical.choose_spec (key i h)
      simp only [f, dif_pos h]
      exact this
    have hlen : ((List.range len).map f).length = len := by simp
    refine ⟨(List.range len).map f, ⟨some a, cap, by rw [hlen]; exact hcs, by rw [hlen]; exact hl, ⟨rfl, ?_, fun _ => ⟨a, rfl, ?_⟩⟩⟩, ?_, ?_⟩
    · rw [hlen]; have : maxLen = 9223372036854775807 := by decide
      omega
    · intro j x hj
      have hjl : j < len := by
        have := (List.getElem?_eq_some_iff.1 hj).1
        simpa using this
      have : x = f j := by
        rw [List.getElem?_map, List.getElem?_range hjl] at hj
        simpa using hj.symm
      subst this
      obtain ⟨c, h1, _, h3⟩ := hf j hjl
      exact ⟨c, d.K_len h1, h1, h3⟩
    · rw [hlen]; omega
    · intro x hx
      obtain ⟨i, hi', rfl⟩ := List.mem_map.1 hx
      obtain ⟨c, _, h2, _⟩ := hf i (List.mem_range.1 hi')
      exact h2
/-- A struct of one-cell fields, field by field. -/
theorem opk_fields {e : TypeId} {fs : Array Field} (he : Tryd.prog.underlying e = some (.struct fs)) (hone : oneCellFields Tryd.prog fs = true) (hC : Tryd.prog.cellsOf e = fs.size) {n : Nat} {cs : List Value} {y : DataW H × List MemPlace}
    (h : DataW.trod enc Tryd.prog w 0 (fun _ => true) true n e cs = some y) (hcl : cs.length = fs.size) : ∀ (j : Nat) (f : Field), fs[j]? = some f → ∃ (v : Value) (m : Nat) (z : DataW H × List MemPlace), cs[j]? = some v ∧ DataW.trod enc Tryd.prog w 0 (fun _ => true) true m f.type [v] = some z := by
  obtain ⟨ys, n', hn', hy, hlen, hyl, hf⟩ := DataW.trod_struct he h
  intro j f hj
  obtain ⟨ho, hk⟩ := hone_of hone j f hj
  have hjl : j < fs.size := (Array.getElem?_eq_some_iff.1 hj).1
  have hv : cs[j]? = some (cs[j]'(by omega)) := List.getElem?_eq_getElem (by omega)
  have h1 := hf j f hj
  rw [ho, hk] at h1
  have hone' : (cs.drop j).take 1 = [cs[j]'(by omega)] := by
    rw [List.drop_eq_getElem_cons (by omega)]
    rfl
  rw [hone'] at h1
  have hys : ys[j]? = some (ys[j]'(by omega)) := List.getElem?_eq_getElem (by omega)
  exact ⟨_, _, _, hv, h1.trans hys⟩
theorem trod_len {e : TypeId} {fs : Array Field} (he : Tryd.prog.underlying e = some (.struct fs)) {n : Nat} {cs : List Value} {y : DataW H × List MemPlace} (h : DataW.trod enc Tryd.prog w 0 (fun _ => true) true n e cs = some y) : cs.length = Tryd.prog.cellsOf e := by
  obtain ⟨ys, n', hn', hy, hlen, hyl, hf⟩ := DataW.trod_struct he h
  exact hlen

end
section
variable {H : Type} {enc : TypeId × Value → H} {w : World}
theorem opk64 : OpK enc w k64 64 wfV := fun n cs y h => by
  have hl : cs.length = 3 := (trod_len Tryd.underlying64 h).trans (by kernel_rfl)
  have hf := opk_fields Tryd.underlying64 (by kernel_rfl) (by kernel_rfl) h (by rw [hl]; rfl)
  obtain ⟨v0, m0, z0, c0, t0⟩ := hf 0 _ rfl
  obtain ⟨v1, m1, z1, c1, t1⟩ := hf 1 _ rfl
  obtain ⟨v2, m2, z2, c2, t2⟩ := hf 2 _ rfl
  obtain ⟨x0, e0, _, g0⟩ := DataW.trod_int (t := 62) Tryd.underlying62 t0
  obtain ⟨x1, e1, _, g1⟩ := DataW.trod_int (t := 2) Tryd.underlying2 t1
  obtain ⟨x2, e2, _, g2⟩ := DataW.trod_string (t := 9) Tryd.underlying9 t2
  match cs, hl, c0, c1, c2 with
  | [a, b, c], _, c0, c1, c2 =>
    simp at c0 c1 c2 e0 e1 e2
    subst c0 c1 c2 e0 e1 e2
    exact ⟨⟨x0, x1, x2⟩, k64_mk w _, g0, g1, g2⟩
theorem opk78 : OpK enc w k78 78 (fun c => c.f0.size ≤ maxLen) := fun n cs y h => by
  have hl : cs.length = 5 := (trod_len Tryd.underlying78 h).trans (by kernel_rfl)
  have hf := opk_fields Tryd.underlying78 (by kernel_rfl) (by kernel_rfl) h (by rw [hl]; rfl)
  obtain ⟨v0, m0, z0, c0, t0⟩ := hf 0 _ rfl
  obtain ⟨v1, m1, z1, c1, t1⟩ := hf 1 _ rfl
  obtain ⟨v2, m2, z2, c2, t2⟩ := hf 2 _ rfl
  obtain ⟨v3, m3, z3, c3, t3⟩ := hf 3 _ rfl
  obtain ⟨v4, m4, z4, c4, t4⟩ := hf 4 _ rfl
  obtain ⟨x0, e0, _, g0⟩ := DataW.trod_string (t := 9) Tryd.underlying9 t0
  obtain ⟨x1, e1, _, g1⟩ := DataW.trod_int (t := 62) Tryd.underlying62 t1
  obtain ⟨x2, e2, _⟩ := DataW.trod_bool (t := 4) Tryd.underlying4 t2
  obtain ⟨x3, e3, _, g3⟩ := DataW.trod_int (t := 2) Tryd.underlying2 t3
  obtain ⟨x4, e4, _, g4⟩ := DataW.trod_int (t := 2) Tryd.underlying2 t4
  match cs, hl, c0, c1, c2, c3, c4 with
  | [a, b, c, d, e], _, c0, c1, c2, c3, c4 =>
    simp at c0 c1 c2 c3 c4 e0 e1 e2 e3 e4
    subst c0 c1 c2 c3 c4 e0 e1 e2 e3 e4
    exact ⟨⟨x0, x1, x2, x3, x4⟩, k78_mk w _, g0⟩
theorem opk75 : OpK enc w k75 75 (fun r => r.f0.length ≤ maxLen ∧ ∀ x ∈ r.f0, (Lit.int .i64 x).wf = true) := fun n cs y h => by
  have hl : cs.length = 3 := (trod_len Tryd.underlying75 h).trans (by kernel_rfl)
  have hf := opk_fields Tryd.underlying75 (by kernel_rfl) (by kernel_rfl) h (by rw [hl]; rfl)
  obtain ⟨v0, m0, z0, c0, t0⟩ := hf 0 _ rfl
  obtain ⟨v1, m1, z1, c1, t1⟩ := hf 1 _ rfl
  obtain ⟨v2, m2, z2, c2, t2⟩ := hf 2 _ rfl
  obtain ⟨x0, ⟨A0, k0, e0, l0, g0⟩, o0⟩ := opk_slice (t := 47) (e := 3) Tryd.underlying47 (by kernel_rfl) (opk_int (k := .i64) Tryd.underlying3) _ _ _ t0
  obtain ⟨x1, e1, _, g1⟩ := DataW.trod_int (t := 3) Tryd.underlying3 t1
  obtain ⟨x2, e2, _, g2⟩ := DataW.trod_int (t := 3) Tryd.underlying3 t2
  match cs, hl, c0, c1, c2 with
  | [a, b, c], _, c0, c1, c2 =>
    simp at c0 c1 c2 e0 e1 e2
    subst c0 c1 c2 e0 e1 e2
    exact ⟨⟨x0, x1, x2⟩, k75_mk w _ l0 g0, o0⟩
def okT (t : S49) : Prop := t.f0.size ≤ maxLen ∧ (t.f1.length ≤ maxLen ∧ ∀ c ∈ t.f1, c.f0.size ≤ maxLen) ∧ (t.f2.length ≤ maxLen ∧ ∀ key ∈ t.f2, key.length ≤ maxLen ∧ ∀ x ∈ key, (Lit.int .i64 x).wf = true) ∧
  (t.f3.length ≤ maxLen ∧ ∀ r ∈ t.f3, r.f0.length ≤ maxLen ∧ ∀ x ∈ r.f0, (Lit.int .i64 x).wf = true) ∧ (t.f4.length ≤ maxLen ∧ ∀ x ∈ t.f4, (Lit.int .i64 x).wf = true)
theorem opk49 : OpK enc w k49 49 okT := fun n cs y h => by
  have hl : cs.length = 5 := (trod_len Tryd.underlying49 h).trans (by kernel_rfl)
  have hf := opk_fields Tryd.underlying49 (by kernel_rfl) (by kernel_rfl) h (by rw [hl]; rfl)
  obtain ⟨v0, m0, z0, c0, t0⟩ := hf 0 _ rfl
  obtain ⟨v1, m1, z1, c1, t1⟩ := hf 1 _ rfl
  obtain ⟨v2, m2, z2, c2, t2⟩ := hf 2 _ rfl
  obtain ⟨v3, m3, z3, c3, t3⟩ := hf 3 _ rfl
  obtain ⟨v4, m4, z4, c4, t4⟩ := hf 4 _ rfl
  obtain ⟨x0, e0, _, g0⟩ := DataW.trod_string (t := 9) Tryd.underlying9 t0
  obtain ⟨x1, ⟨A1, k1, e1, l1, g1⟩, o1⟩ := opk_slice (t := 44) (e := 78) Tryd.underlying44 (by kernel_rfl) opk78 _ _ _ t1
  obtain ⟨x2, ⟨A2, k2, e2, l2, g2⟩, o2⟩ := opk_slice (t := 45) (e := 47) Tryd.underlying45 (by kernel_rfl) (opk_slice (t := 47) (e := 3) Tryd.underlying47 (by kernel_rfl) (opk_int (k := .i64) Tryd.underlying3)) _ _ _ t2
  obtain ⟨x3, ⟨A3, k3, e3, l3, g3⟩, o3⟩ := opk_slice (t := 46) (e := 75) Tryd.underlying46 (by kernel_rfl) opk75 _ _ _ t3
  obtain ⟨x4, ⟨A4, k4, e4, l4, g4⟩, o4⟩ := opk_slice (t := 47) (e := 3) Tryd.underlying47 (by kernel_rfl) (opk_int (k := .i64) Tryd.underlying3) _ _ _ t4
  match cs, hl, c0, c1, c2, c3, c4 with
  | [a, b, c, d, e], _, c0, c1, c2, c3, c4 =>
    simp at c0 c1 c2 c3 c4 e0 e1 e2 e3 e4
    subst c0 c1 c2 c3 c4 e0 e1 e2 e3 e4
    exact ⟨⟨x0, x1, x2, x3, x4⟩, k49_mk w _ l1 g1 l2 g2 l3 g3 l4 g4, g0, o1, o2, o3, o4⟩
set_option maxRecDepth 100000 in
/-- An argument that is a slice. -/
theorem open_arg {α : Type} {d : Kd α} {t e : TypeId} {ok : α → Prop} (ht : Tryd.prog.underlying t = some (.slice e)) (hsz : Tryd.prog.cellsOf e = d.sz) (hd : OpK enc w d e ok) {v : Value} {x : DataW H} {p : List MemPlace} {base : Nat}
    (hv : Value.okWide Tryd.prog w .any base t v) (h : DataW.Trod enc Tryd.prog w 0 (fun _ => true) true t v x p) : ∃ (A : Option Addr) (cap : Nat) (l : List α), v = .slice A l.length cap ∧ l.length ≤ cap ∧ d.C w A l.length l ∧ ∀ x ∈ l, ok x := by
  obtain ⟨A0, len0, cap0, rfl⟩ := okWide_slice ht hv
  obtain ⟨fuel, hf⟩ := h
  obtain ⟨l, ⟨A, c, hcs, hl, hC⟩, _, ho⟩ := opk_slice ht hsz hd _ _ _ hf
  have hcs' : (Value.slice A0 len0 cap0) = .slice A l.length c := by simpa [Value.cells] using hcs
  exact ⟨A, c, l, hcs', hl, hC, ho⟩
set_option maxRecDepth 100000 in
theorem open_scheme {v : Value} {x : DataW H} {p : List MemPlace} {base : Nat} (hv : Value.okWide Tryd.prog w .any base 23 v) (h : DataW.Trod enc Tryd.prog w 0 (fun _ => true) true 23 v x p) :
    ∃ (A : Option Addr) (cap : Nat) (l : List S49), v = .slice A l.length cap ∧ l.length ≤ cap ∧ k49.C w A l.length l ∧ ∀ x ∈ l, okT x := open_arg Tryd.underlying23 (by kernel_rfl) opk49 hv h
def okRow (row : List S64) : Prop := row.length ≤ maxLen ∧ ∀ x ∈ row, wfV x
set_option maxRecDepth 100000 in
theorem open_data {v : Value} {x : DataW H} {p : List MemPlace} {base : Nat} (hv : Value.okWide Tryd.prog w .any base 25 v) (h : DataW.Trod enc Tryd.prog w 0 (fun _ => true) true 25 v x p) :
    ∃ (A : Option Addr) (cap : Nat) (l : List (List (List S64))), v = .slice A l.length cap ∧ l.length ≤ cap ∧ (Kd.slice 51 (Kd.slice 64 k64)).C w A l.length l ∧ ∀ rows ∈ l, rows.length ≤ maxLen ∧ ∀ row ∈ rows, okRow row :=
  open_arg Tryd.underlying25 (by kernel_rfl) (opk_slice Tryd.underlying32 (by kernel_rfl) (opk_slice Tryd.underlying51 (by kernel_rfl) opk64)) hv h
set_option maxRecDepth 100000 in
theorem open_rows {v : Value} {x : DataW H} {p : List MemPlace} {base : Nat} (hv : Value.okWide Tryd.prog w .any base 32 v) (h : DataW.Trod enc Tryd.prog w 0 (fun _ => true) true 32 v x p) :
    ∃ (A : Option Addr) (cap : Nat) (l : List (List S64)), v = .slice A l.length cap ∧ l.length ≤ cap ∧ (Kd.slice 64 k64).C w A l.length l ∧ ∀ row ∈ l, okRow row :=
  open_arg Tryd.underlying32 (by kernel_rfl) (opk_slice Tryd.underlying51 (by kernel_rfl) opk64) hv h
end
end Go.Proofs.YthgfdnffnbclpaaDoor
namespace Go.Proofs.YthgfdnffnbclpaaDoor.PAll
open Go.RowKit Go.Proofs.YthgfdnffnbclpaaDoorW.PrintWords Go.Proofs.YthgfdnffnbclpaaDoorW.PrintLast Go.Proofs.YthgfdnffnbclpaaDoorW.PrintMore

def memP {α : Type} [DecidableEq α] (x : α) (S : List α) : Bool := S.any fun y => decide (y = x)
theorem memP_iff {α : Type} [DecidableEq α] (x : α) (S : List α) : memP x S = true ↔ x ∈ S := by
  unfold memP
  rw [List.any_eq_true]
  constructor
  · rintro ⟨y, hy, h⟩
    rw [of_decide_eq_true h] at hy
    exact hy
  · exact fun h => ⟨x, h, decide_eq_true rfl⟩
/-- No element comes twice, nor is in S. -/
def distP {α : Type} [DecidableEq α] : List α → List α → Bool
  | _, [] => true
  | S, x :: r => if memP x S = true then false else distP (x :: S) r

theorem run_makeMapN {P : Program} {t k e : TypeId} (ht : P.underlying t = some (.map k e)) (n : Int) (w : World) : (Instr.makeMap t (some (.int .i64 n))).run P w = .ok (.map (some w.heap.size)) (w.alloc (.map #[] 0)) := by
  simp [Instr.makeMap, run_underlying ht, Result.andThen]
  rfl

theorem zero4 (w : World) : (zeroValue 4).run Tryd.prog w = .ok (.bool false) w := by kernel_rfl

set_option maxRecDepth 100000 in
theorem distinct_walk_string (A : Option Addr) (c : Nat) (l : List ByteArray) (w : World) (hC : Kd.C Kd.string w A l.length l) (hc : l.length ≤ c) (hs : ∀ s ∈ l, s.size ≤ 9223372036854775807) :
    Calls Tryd.prog 23 #[.slice A l.length c] w fun e w' => e = .returned (.bool (distP [] l)) ∧ Below w.heap.size w w' := by
  have hmm := fun n w => @run_makeMapN Tryd.prog 81 9 4 Tryd.underlying81 n w
  have HC := Aside0.mk hC
  have HLEN := Aside0.mk hC.2.1
  have HS := Aside0.mk hs
  obtain ⟨B, hBd⟩ : ∃ B, B = w.heap.size := ⟨_, rfl⟩
  have HBD := Aside0.mk hBd
  clear hC hs
  go_enter Tryd.func23, Tryd.ntmps23
  go_wp2
  have hset : SetM Tryd.prog 9 boolR (w.alloc (Obj.map #[] 0)) B [] := by rw [hBd]; exact SetM.made w
  have hbel : Below w.heap.size w (w.alloc (Obj.map #[] 0)) := (Below.refl _ _).alloc (Nat.le_refl _) _
  have hsz1 : B + 1 ≤ (w.alloc (Obj.map #[] 0)).heap.size := by simp [hBd]
  generalize (w.alloc (Obj.map #[] 0)) = W1 at *
  rw [← hBd]
  have HBL := Aside0.mk hbel
  have HS1 := Aside0.mk hsz1
  have HST := Aside0.mk hset
  clear hbel hsz1 hset hBd
  go_loopg [11] l.length (fun gk v11 wx => ∃ (i : Nat) (S : List ByteArray), i + gk = l.length ∧ v11 = .int .i64 i ∧ Aside0 (S.length = i) ∧ Aside0 (SetM Tryd.prog 9 boolR wx B (S.map Value.string)) ∧ Aside0 (Below w.heap.size w wx) ∧ Aside0 (B + 1 ≤ wx.heap.size) ∧ Aside0 (distP [] l = distP S (l.drop i)))
  case atStart => exact ⟨0, [], by omega, rfl, ⟨rfl⟩, HST, HBL, HS1, ⟨by simp⟩⟩
  case round =>
    obtain ⟨i, S, hi, rfl, HSL, HM, HW, HSZ, HD⟩ := hrel
    cases gk with
    | zero =>
      have e : l.drop i = [] := List.drop_eq_nil_of_le (by omega)
      have hD := HD.out
      rw [e] at hD
      have hii : ¬ (i : Int) < (l.length : Int) := by omega
      go_wp2
      go_ret
      exact ⟨by first | rfl | (rw [hD]; rfl), HW.out⟩
    | succ gk =>
      have hlt : i < l.length := by omega
      have hii : (i : Int) < (l.length : Int) := by omega
      have hi0 : (0 : Int) ≤ (i : Int) := by omega
      have hdr : l.drop i = l[i] :: l.drop (i + 1) := List.drop_eq_getElem_cons hlt
      have hrd : rdOf ByteArray.empty l (i : Int) = l[i] := by unfold rdOf; simp [List.getD, hlt]
      obtain ⟨ad, hA, hx0⟩ := Kd.at_string HC.out (i : Int) hi0 hii
      cases hA
      rw [hrd, Int.toNat_natCast] at hx0
      have hr0 := (HW.out.cell (World.block_lt_of_cell? w _ hx0)).trans hx0
      have hD := HD.out
      rw [hdr, distP] at hD
      have hsx := HS.out l[i] (List.getElem_mem hlt)
      generalize hx : l[i] = x at *
      have hkey : keyOf Tryd.prog 9 (.string x) = some (.string x.data.toList) := WideMaps.keyOf_string_mk Tryd.underlying9 hsx
      have hmem : (Value.string x ∈ S.map Value.string) ↔ x ∈ S := by simp
      have hlook : (Instr.lookup 81 (.map (some B)) (.string x) false).run Tryd.prog wr = .ok (.bool (memP x S)) wr :=
        HM.out.look_bool (Maps.string_keyed Tryd.underlying9) Tryd.underlying81 (zero4 _) hkey _ (by rw [hmem]; exact memP_iff x S)
      by_cases hin : memP x S = true
      · rw [if_pos hin] at hD
        rw [hin] at hlook
        go_wp2_with (at_lookup; refine wpList_look_run _ rfl _ _ _ _ rfl rfl rfl hlook ?_)
        go_ret
        exact ⟨by first | rfl | (rw [hD]; rfl), HW.out⟩
      · rw [if_neg hin] at hD
        rw [Bool.not_eq_true] at hin
        rw [hin] at hlook
        obtain ⟨w', hrun, hset', hturn⟩ := HM.out.store (Maps.string_keyed Tryd.underlying9) Tryd.underlying81 (by rw [List.length_map, HSL.out]; have := HLEN.out; show i < 9223372036854775807; omega) (val := .bool true) (d := .lit (.bool true)) (ps := []) hkey rfl
        have hg := hturn.grown
        have hbel' : Below w.heap.size w w' := HW.out.grown hg HW.out.size (fun j hj => by cases hj; rw [← HBD.out]; exact Nat.le_refl _)
        have hsz' : B + 1 ≤ w'.heap.size := by have := hg.size; have := HSZ.out; omega
        go_wp2_with (first | (at_lookup; refine wpList_look_run _ rfl _ _ _ _ rfl rfl rfl hlook ?_) | (at_mapUpdate; refine wpList_store_run _ rfl _ _ _ _ rfl rfl rfl rfl hrun ?_))
        go_roundg gk
        case measure => omega
        case rel => exact ⟨i + 1, x :: S, by omega, by first | rfl | (simp; done) | (have := HLEN.out; simp; unfold wrap64; omega), ⟨by rw [List.length_cons, HSL.out]⟩, ⟨by simpa using hset'⟩, ⟨hbel'⟩, ⟨hsz'⟩, ⟨hD⟩⟩

set_option maxRecDepth 100000 in
theorem distinct_walk_int (A : Option Addr) (c : Nat) (l : List Int) (w : World) (hC : Kd.C (Kd.int .i64) w A l.length l) (hc : l.length ≤ c) (hs : ∀ s ∈ l, (Lit.int .i64 s).wf = true) :
    Calls Tryd.prog 74 #[.slice A l.length c] w fun e w' => e = .returned (.bool (distP [] l)) ∧ Below w.heap.size w w' := by
  have hmm := fun n w => @run_makeMapN Tryd.prog 127 3 4 Tryd.underlying127 n w
  have HC := Aside0.mk hC
  have HLEN := Aside0.mk hC.2.1
  have HS := Aside0.mk hs
  obtain ⟨B, hBd⟩ : ∃ B, B = w.heap.size := ⟨_, rfl⟩
  have HBD := Aside0.mk hBd
  clear hC hs
  go_enter Tryd.func74, Tryd.ntmps74
  go_wp2
  have hset : SetM Tryd.prog 3 boolR (w.alloc (Obj.map #[] 0)) B [] := by rw [hBd]; exact SetM.made w
  have hbel : Below w.heap.size w (w.alloc (Obj.map #[] 0)) := (Below.refl _ _).alloc (Nat.le_refl _) _
  have hsz1 : B + 1 ≤ (w.alloc (Obj.map #[] 0)).heap.size := by simp [hBd]
  generalize (w.alloc (Obj.map #[] 0)) = W1 at *
  rw [← hBd]
  have HBL := Aside0.mk hbel
  have HS1 := Aside0.mk hsz1
  have HST := Aside0.mk hset
  clear hbel hsz1 hset hBd
  go_loopg [11] l.length (fun gk v11 wx => ∃ (i : Nat) (S : List Int), i + gk = l.length ∧ v11 = .int .i64 i ∧ Aside0 (S.length = i) ∧ Aside0 (SetM Tryd.prog 3 boolR wx B (S.map (Value.int .i64))) ∧ Aside0 (Below w.heap.size w wx) ∧ Aside0 (B + 1 ≤ wx.heap.size) ∧ Aside0 (distP [] l = distP S (l.drop i)))
  case atStart => exact ⟨0, [], by omega, rfl, ⟨rfl⟩, HST, HBL, HS1, ⟨by simp⟩⟩
  case round =>
    obtain ⟨i, S, hi, rfl, HSL, HM, HW, HSZ, HD⟩ := hrel
    cases gk with
    | zero =>
      have e : l.drop i = [] := List.drop_eq_nil_of_le (by omega)
      have hD := HD.out
      rw [e] at hD
      have hii : ¬ (i : Int) < (l.length : Int) := by omega
      go_wp2
      go_ret
      exact ⟨by first | rfl | (rw [hD]; rfl), HW.out⟩
    | succ gk =>
      have hlt : i < l.length := by omega
      have hii : (i : Int) < (l.length : Int) := by omega
      have hi0 : (0 : Int) ≤ (i : Int) := by omega
      have hdr : l.drop i = l[i] :: l.drop (i + 1) := List.drop_eq_getElem_cons hlt
      have hrd : rd l (i : Int) = l[i] := by unfold rd; simp [List.getD, hlt]
      obtain ⟨ad, hA, hx0⟩ := Kd.at_int HC.out (i : Int) hi0 hii
      cases hA
      rw [hrd, Int.toNat_natCast] at hx0
      have hr0 := (HW.out.cell (World.block_lt_of_cell? w _ hx0)).trans hx0
      have hD := HD.out
      rw [hdr, distP] at hD
      have hsx := HS.out l[i] (List.getElem_mem hlt)
      generalize hx : l[i] = x at *
      have hkey : keyOf Tryd.prog 3 (.int .i64 x) = some (.int .i64 x) := Maps.keyOf_int_mk Tryd.underlying3 hsx
      have hmem : ((Value.int .i64) x ∈ S.map (Value.int .i64)) ↔ x ∈ S := by simp
      have hlook : (Instr.lookup 127 (.map (some B)) (.int .i64 x) false).run Tryd.prog wr = .ok (.bool (memP x S)) wr :=
        HM.out.look_bool (Maps.int_keyed Tryd.underlying3) Tryd.underlying127 (zero4 _) hkey _ (by rw [hmem]; exact memP_iff x S)
      by_cases hin : memP x S = true
      · rw [if_pos hin] at hD
        rw [hin] at hlook
        go_wp2_with (at_lookup; refine wpList_look_run _ rfl _ _ _ _ rfl rfl rfl hlook ?_)
        go_ret
        exact ⟨by first | rfl | (rw [hD]; rfl), HW.out⟩
      · rw [if_neg hin] at hD
        rw [Bool.not_eq_true] at hin
        rw [hin] at hlook
        obtain ⟨w', hrun, hset', hturn⟩ := HM.out.store (Maps.int_keyed Tryd.underlying3) Tryd.underlying127 (by rw [List.length_map, HSL.out]; have := HLEN.out; show i < 9223372036854775807; omega) (val := .bool true) (d := .lit (.bool true)) (ps := []) hkey rfl
        have hg := hturn.grown
        have hbel' : Below w.heap.size w w' := HW.out.grown hg HW.out.size (fun j hj => by cases hj; rw [← HBD.out]; exact Nat.le_refl _)
        have hsz' : B + 1 ≤ w'.heap.size := by have := hg.size; have := HSZ.out; omega
        go_wp2_with (first | (at_lookup; refine wpList_look_run _ rfl _ _ _ _ rfl rfl rfl hlook ?_) | (at_mapUpdate; refine wpList_store_run _ rfl _ _ _ _ rfl rfl rfl rfl hrun ?_))
        go_roundg gk
        case measure => omega
        case rel => exact ⟨i + 1, x :: S, by omega, by first | rfl | (simp; done) | (have := HLEN.out; simp; unfold wrap64; omega), ⟨by rw [List.length_cons, HSL.out]⟩, ⟨by simpa using hset'⟩, ⟨hbel'⟩, ⟨hsz'⟩, ⟨hD⟩⟩
end Go.Proofs.YthgfdnffnbclpaaDoor.PAll
namespace Go.Proofs.YthgfdnffnbclpaaDoor.PAll
open Go.RowKit Go.Proofs.YthgfdnffnbclpaaDoorW.PrintWords Go.Proofs.YthgfdnffnbclpaaDoorW.PrintLast Go.Proofs.YthgfdnffnbclpaaDoorW.PrintMore

def scheme_distinct_string.f (l : List ByteArray) : Option Bool := if l.all (fun s => decide (s.size ≤ 9223372036854775807)) = true then some (distP [] l) else none
theorem scheme_distinct_string.calls (A0 : Option Addr) (c0 : Nat) (l0 : List ByteArray) (r : Bool) (w : World) (hr0 : Kd.C Kd.string w A0 l0.length l0) (hc0 : l0.length ≤ c0) (h : scheme_distinct_string.f l0 = some r) :
    Calls Tryd.prog 23 #[.slice A0 l0.length c0] w fun e w' => e = .returned (.bool r) ∧ Below w.heap.size w w' := by
  unfold scheme_distinct_string.f at h
  split at h
  · rename_i hc
    obtain rfl := Option.some.inj h
    exact distinct_walk_string A0 c0 l0 w hr0 hc0 (fun s hs => of_decide_eq_true (List.all_eq_true.1 hc s hs))
  · cases h
def scheme_distinct_int.f (l : List Int) : Option Bool := if l.all (fun s => (Lit.int .i64 s).wf) = true then some (distP [] l) else none
theorem scheme_distinct_int.calls (A0 : Option Addr) (c0 : Nat) (l0 : List Int) (r : Bool) (w : World) (hr0 : Kd.C (Kd.int .i64) w A0 l0.length l0) (hc0 : l0.length ≤ c0) (h : scheme_distinct_int.f l0 = some r) :
    Calls Tryd.prog 74 #[.slice A0 l0.length c0] w fun e w' => e = .returned (.bool r) ∧ Below w.heap.size w w' := by
  unfold scheme_distinct_int.f at h
  split at h
  · rename_i hc
    obtain rfl := Option.some.inj h
    exact distinct_walk_int A0 c0 l0 w hr0 hc0 (fun s hs => List.all_eq_true.1 hc s hs)
  · cases h
end Go.Proofs.YthgfdnffnbclpaaDoor.PAll
namespace Go.Proofs.YthgfdnffnbclpaaDoor.PAll
open Go.RowKit Go.Proofs.YthgfdnffnbclpaaDoorW.PrintWords Go.Proofs.YthgfdnffnbclpaaDoorW.PrintLast Go.Proofs.YthgfdnffnbclpaaDoorW.PrintMore
attribute [local go_sem] max2_int min2_int max_two min_two max_three min_three max_four min_four   -- for this text's walks alone

attribute [local go_sem] kwB_size
/-! ### jointerref02_IsKeyword: function 18 -/
mutual
def jointerref02_IsKeyword.l0 : Nat → ByteArray → Int → Option (Bool)
  | 0, _, _ => none
  | k + 1, x0, x3 => if x3 < (x0.size : Int) then (if 0 ≤ x3 then (if (bt x0 x3) < 65 then (some false) else (if (bt x0 x3) > 90 then (some false) else (jointerref02_IsKeyword.l0 k x0 (wrap64 (x3 + 1))))) else (none)) else (jointerref02_IsKeyword.l1 k x0 0)
def jointerref02_IsKeyword.l1 : Nat → ByteArray → Int → Option (Bool)
  | 0, _, _ => none
  | k + 1, x0, x4 => if (wrap64 ((wrap64 (x4 + (x0.size : Int))) + 2)) ≤ 372 then (if 0 ≤ x4 then (if x4 ≤ (wrap64 ((wrap64 (x4 + (x0.size : Int))) + 2)) then (if 1 + x0.size ≤ 9223372036854775807 then (if ((⟨#[32]⟩ : ByteArray) ++ x0).size + 1 ≤ 9223372036854775807 then (if (kwB.extract (x4 : Int).toNat ((wrap64 ((wrap64 (x4 + (x0.size : Int))) + 2)) : Int).toNat).toList = (((⟨#[32]⟩ : ByteArray) ++ x0) ++ (⟨#[32]⟩ : ByteArray)).toList then (some true) else (jointerref02_IsKeyword.l1 k x0 (wrap64 (x4 + 1)))) else (none)) else (none)) else (none)) else (none)) else (some false)
end
def jointerref02_IsKeyword.f (k : Nat) (a0 : ByteArray) : Option (Bool) := if a0.toList = ([] : List UInt8) then (some false) else (jointerref02_IsKeyword.l0 k a0 0)
theorem jointerref02_IsKeyword.mono_l : ∀ k, (∀ y0 y1, LeO (jointerref02_IsKeyword.l0 k y0 y1) (jointerref02_IsKeyword.l0 (k + 1) y0 y1)) ∧ (∀ y0 y1, LeO (jointerref02_IsKeyword.l1 k y0 y1) (jointerref02_IsKeyword.l1 (k + 1) y0 y1))
  | 0 => ⟨fun _ _ r h => by simp [jointerref02_IsKeyword.l0] at h, fun _ _ r h => by simp [jointerref02_IsKeyword.l1] at h⟩
  | k + 1 => by
    obtain ⟨ih0, ih1⟩ := jointerref02_IsKeyword.mono_l k
    refine ⟨?_, ?_⟩
    · intro y0 y1
      unfold jointerref02_IsKeyword.l0
      repeat' first
      | (with_reducible exact ih0 _ _)
      | (with_reducible exact ih1 _ _)
      | (with_reducible exact LeO.refl _)
      | (with_reducible exact LeO.none _)
      | (with_reducible refine LeO.ite ?_ ?_)
      | (with_reducible refine LeO.bind ?_ (fun _ => ?_))
      | exact ih0 _ _
      | exact ih1 _ _
      | exact LeO.none _
      | refine LeO.ite ?_ ?_
      | refine LeO.bind ?_ (fun _ => ?_)
    · intro y0 y1
      unfold jointerref02_IsKeyword.l1
      repeat' first
      | (with_reducible exact ih0 _ _)
      | (with_reducible exact ih1 _ _)
      | (with_reducible exact LeO.refl _)
      | (with_reducible exact LeO.none _)
      | (with_reducible refine LeO.ite ?_ ?_)
      | (with_reducible refine LeO.bind ?_ (fun _ => ?_))
      | exact ih0 _ _
      | exact ih1 _ _
      | exact LeO.none _
      | refine LeO.ite ?_ ?_
      | refine LeO.bind ?_ (fun _ => ?_)
theorem jointerref02_IsKeyword.mono : ∀ a0 k, LeO (jointerref02_IsKeyword.f k a0) (jointerref02_IsKeyword.f (k + 1) a0) := by
  intro a0 k
  obtain ⟨ih0, ih1⟩ := jointerref02_IsKeyword.mono_l k
  unfold jointerref02_IsKeyword.f
  repeat' first
      | (with_reducible exact ih0 _ _)
      | (with_reducible exact ih1 _ _)
      | (with_reducible exact LeO.refl _)
      | (with_reducible exact LeO.none _)
      | (with_reducible refine LeO.ite ?_ ?_)
      | (with_reducible refine LeO.bind ?_ (fun _ => ?_))
      | exact ih0 _ _
      | exact ih1 _ _
      | exact LeO.none _
      | refine LeO.ite ?_ ?_
      | refine LeO.bind ?_ (fun _ => ?_)
set_option maxHeartbeats 8000000 in
set_option maxRecDepth 100000 in
theorem jointerref02_IsKeyword.calls (k : Nat) (a0 : ByteArray) (r : Bool) (w : World) (h : jointerref02_IsKeyword.f k a0 = some r) :
    Calls Tryd.prog 62 #[.string a0] w fun e w' => e = .returned (.bool r) ∧ Drawn0 w w' := by
  have H : (if a0.toList = ([] : List UInt8) then (some false) else (jointerref02_IsKeyword.l0 k a0 0)) = some r := h
  clear h
  by_cases c2 : a0.toList = ([] : List UInt8)
  · rw [if_pos c2] at H
    have c2b0 : (a0.toList == ([] : List UInt8)) = true := beq_iff_eq.mpr c2
    have c2b1 : (a0.toList != ([] : List UInt8)) = false := bne_eq_false_iff_eq.mpr c2
    clear c2
    obtain rfl := Option.some.inj H
    go_enter Tryd.func62, Tryd.ntmps62
    simp only [kwB_eq]
    go_wp2
    go_ret
    exact ⟨by first | rfl | (simp; done) | (simp [*]; done), by repeat (first | exact Drawn0.refl _ | apply Drawn0.step)⟩
  · rw [if_neg c2] at H
    have c2b0 : (a0.toList == ([] : List UInt8)) = false := beq_eq_false_iff_ne.mpr c2
    have c2b1 : (a0.toList != ([] : List UInt8)) = true := bne_iff_ne.mpr c2
    have H' := Aside0.mk H
    clear H
    go_enter Tryd.func62, Tryd.ntmps62
    simp only [kwB_eq]
    go_wp2
    go_loopg [3] k (fun kq v3 w' => ∃ (x3_1 : Int), v3 = .int .i64 x3_1 ∧ Aside0 (jointerref02_IsKeyword.l0 kq a0 x3_1 = some r) ∧ Aside0 (kq ≤ k) ∧ Drawn0 w w')
    case atStart => exact ⟨(0), (by first | rfl | (simp; done) | (simp [*]; done)), H', ⟨Nat.le_refl _⟩, by repeat (first | exact Drawn0.refl _ | apply Drawn0.step)⟩
    case round =>
      clear H'
      try clear c1
      try clear c2
      try clear c2b0
      try clear c2b1
      try clear p2
      obtain ⟨x3_1, rfl, HA, HK1, ⟨m1, rfl⟩⟩ := hrel
      cases gk with
      | zero => exact absurd HA.out (by simp [jointerref02_IsKeyword.l0])
      | succ k1 =>
        have H := HA.out
        clear HA
        simp only [jointerref02_IsKeyword.l0] at H
        by_cases c3 : x3_1 < (a0.size : Int)
        · rw [if_pos c3] at H
          have c3b0 : decide (x3_1 < (a0.size : Int)) = true := decide_eq_true c3
          clear c3
          by_cases c4 : 0 ≤ x3_1
          · rw [if_pos c4] at H
            have c4b0 : decide (0 ≤ x3_1) = true := decide_eq_true c4
            clear c4
            by_cases c6 : (bt a0 x3_1) < 65
            · rw [if_pos c6] at H
              have c6b0 : decide ((bt a0 x3_1) < 65) = true := decide_eq_true c6
              clear c6
              obtain rfl := Option.some.inj H
              have p5 : 0 ≤ (x3_1 : Int) := of_decide_eq_true (by first | (with_reducible assumption) | assumption)
              have q5 : x3_1 < (a0.size : Int) := of_decide_eq_true (by first | (with_reducible assumption) | assumption)
              have hx5 := bt_at a0 x3_1
              replace p5 := eq_true p5
              replace q5 := eq_true q5
              go_wp2
              go_ret
              exact ⟨by first | rfl | (simp; done) | (simp [*]; done), by repeat (first | exact Drawn0.refl _ | apply Drawn0.step)⟩
            · rw [if_neg c6] at H
              have c6b0 : decide ((bt a0 x3_1) < 65) = false := decide_eq_false c6
              clear c6
              by_cases c8 : (bt a0 x3_1) > 90
              · rw [if_pos c8] at H
                have c8b0 : decide (90 < (bt a0 x3_1)) = true := decide_eq_true c8
                clear c8
                obtain rfl := Option.some.inj H
                have p5 : 0 ≤ (x3_1 : Int) := of_decide_eq_true (by first | (with_reducible assumption) | assumption)
                have q5 : x3_1 < (a0.size : Int) := of_decide_eq_true (by first | (with_reducible assumption) | assumption)
                have hx5 := bt_at a0 x3_1
                replace p5 := eq_true p5
                replace q5 := eq_true q5
                have p7 : 0 ≤ (x3_1 : Int) := of_decide_eq_true (by first | (with_reducible assumption) | assumption)
                have q7 : x3_1 < (a0.size : Int) := of_decide_eq_true (by first | (with_reducible assumption) | assumption)
                have hx7 := bt_at a0 x3_1
                replace p7 := eq_true p7
                replace q7 := eq_true q7
                go_wp2
                go_ret
                exact ⟨by first | rfl | (simp; done) | (simp [*]; done), by repeat (first | exact Drawn0.refl _ | apply Drawn0.step)⟩
              · rw [if_neg c8] at H
                have c8b0 : decide (90 < (bt a0 x3_1)) = false := decide_eq_false c8
                clear c8
                have H' := Aside0.mk H
                clear H
                have p5 : 0 ≤ (x3_1 : Int) := of_decide_eq_true (by first | (with_reducible assumption) | assumption)
                have q5 : x3_1 < (a0.size : Int) := of_decide_eq_true (by first | (with_reducible assumption) | assumption)
                have hx5 := bt_at a0 x3_1
                replace p5 := eq_true p5
                replace q5 := eq_true q5
                have p7 : 0 ≤ (x3_1 : Int) := of_decide_eq_true (by first | (with_reducible assumption) | assumption)
                have q7 : x3_1 < (a0.size : Int) := of_decide_eq_true (by first | (with_reducible assumption) | assumption)
                have hx7 := bt_at a0 x3_1
                replace p7 := eq_true p7
                replace q7 := eq_true q7
                go_wp2
                go_roundg k1
                case measure => have := HK1.out; omega
                case rel => exact ⟨(wrap64 (x3_1 + 1)), (by first | rfl | (simp; done) | (simp [*]; done)), H', ⟨by have := HK1.out; omega⟩, by repeat (first | exact Drawn0.refl _ | apply Drawn0.step)⟩
          · rw [if_neg c4] at H
            exact absurd H (by simp)
        · rw [if_neg c3] at H
          have c3b0 : decide (x3_1 < (a0.size : Int)) = false := decide_eq_false c3
          clear c3
          have H' := Aside0.mk H
          clear H
          go_wp2
          go_loopg [4] k1 (fun kq v4 w' => ∃ (x4_2 : Int), v4 = .int .i64 x4_2 ∧ Aside0 (jointerref02_IsKeyword.l1 kq a0 x4_2 = some r) ∧ Aside0 (kq ≤ k1) ∧ Drawn0 w w')
          case atStart => exact ⟨(0), (by first | rfl | (simp; done) | (simp [*]; done)), H', ⟨Nat.le_refl _⟩, by repeat (first | exact Drawn0.refl _ | apply Drawn0.step)⟩
          case round =>
            clear H'
            try clear c1
            try clear c2
            try clear c2b0
            try clear c2b1
            try clear p2
            try clear c3
            try clear c3b0
            try clear c4
            try clear c4b0
            try clear p5
            try clear q5
            try clear hx5
            try clear c6
            try clear c6b0
            try clear p6
            try clear p7
            try clear q7
            try clear hx7
            try clear c8
            try clear c8b0
            try clear p2
            try clear p5
            try clear p7
            try clear q5
            try clear q7
            obtain ⟨x4_2, rfl, HA, HK2, ⟨m2, rfl⟩⟩ := hrel
            cases gk with
            | zero => exact absurd HA.out (by simp [jointerref02_IsKeyword.l1])
            | succ k2 =>
              have H := HA.out
              clear HA
              simp only [jointerref02_IsKeyword.l1] at H
              by_cases c9 : (wrap64 ((wrap64 (x4_2 + (a0.size : Int))) + 2)) ≤ 372
              · rw [if_pos c9] at H
                have c9b0 : decide ((wrap64 ((wrap64 (x4_2 + (a0.size : Int))) + 2)) ≤ 372) = true := decide_eq_true c9
                clear c9
                by_cases c10 : 0 ≤ x4_2
                · rw [if_pos c10] at H
                  have c10b0 := eq_true c10
                  have c10b1 : decide (0 ≤ x4_2) = true := decide_eq_true c10
                  clear c10
                  by_cases c11 : x4_2 ≤ (wrap64 ((wrap64 (x4_2 + (a0.size : Int))) + 2))
                  · rw [if_pos c11] at H
                    have c11b0 := eq_true c11
                    have c11b1 : decide (x4_2 ≤ (wrap64 ((wrap64 (x4_2 + (a0.size : Int))) + 2))) = true := decide_eq_true c11
                    have c12b0 := eq_true (of_decide_eq_true (by first | (with_reducible assumption) | assumption) : (wrap64 ((wrap64 (x4_2 + (a0.size : Int))) + 2)) ≤ 372)
                    by_cases c13 : 1 + a0.size ≤ 9223372036854775807
                    · rw [if_pos c13] at H
                      have c13b0 := eq_true c13
                      have c13b1 : decide (1 + a0.size ≤ 9223372036854775807) = true := decide_eq_true c13
                      try have c13b2 : (9223372036854775807 < 1 + a0.size) = False := eq_false (Nat.not_lt.2 c13)
                      by_cases c14 : ((⟨#[32]⟩ : ByteArray) ++ a0).size + 1 ≤ 9223372036854775807
                      · rw [if_pos c14] at H
                        have c14b0 := eq_true c14
                        have c14x : 1 + a0.size + 1 ≤ 9223372036854775807 := by have h0 := c14; rw [ByteArray.size_append] at h0; exact h0
                        have c14b8 : decide (1 + a0.size + 1 ≤ 9223372036854775807) = true := decide_eq_true c14x
                        have c14b9 : (9223372036854775807 < 1 + a0.size + 1) = False := eq_false (Nat.not_lt.2 c14x)
                        have c14b7 := eq_true c14x
                        have c14b1 : decide (((⟨#[32]⟩ : ByteArray) ++ a0).size + 1 ≤ 9223372036854775807) = true := decide_eq_true c14
                        try have c14b2 : (9223372036854775807 < ((⟨#[32]⟩ : ByteArray) ++ a0).size + 1) = False := eq_false (Nat.not_lt.2 c14)
                        by_cases c15 : (kwB.extract (x4_2 : Int).toNat ((wrap64 ((wrap64 (x4_2 + (a0.size : Int))) + 2)) : Int).toNat).toList = (((⟨#[32]⟩ : ByteArray) ++ a0) ++ (⟨#[32]⟩ : ByteArray)).toList
                        · rw [if_pos c15] at H
                          have c15b0 : ((kwB.extract (x4_2 : Int).toNat ((wrap64 ((wrap64 (x4_2 + (a0.size : Int))) + 2)) : Int).toNat).toList == (((⟨#[32]⟩ : ByteArray) ++ a0) ++ (⟨#[32]⟩ : ByteArray)).toList) = true := beq_iff_eq.mpr c15
                          have c15b1 : ((kwB.extract (x4_2 : Int).toNat ((wrap64 ((wrap64 (x4_2 + (a0.size : Int))) + 2)) : Int).toNat).toList != (((⟨#[32]⟩ : ByteArray) ++ a0) ++ (⟨#[32]⟩ : ByteArray)).toList) = false := bne_eq_false_iff_eq.mpr c15
                          clear c15
                          obtain rfl := Option.some.inj H
                          go_wp2
                          go_ret
                          exact ⟨by first | rfl | (simp; done) | (simp [*]; done), by repeat (first | exact Drawn0.refl _ | apply Drawn0.step)⟩
                        · rw [if_neg c15] at H
                          have c15b0 : ((kwB.extract (x4_2 : Int).toNat ((wrap64 ((wrap64 (x4_2 + (a0.size : Int))) + 2)) : Int).toNat).toList == (((⟨#[32]⟩ : ByteArray) ++ a0) ++ (⟨#[32]⟩ : ByteArray)).toList) = false := beq_eq_false_iff_ne.mpr c15
                          have c15b1 : ((kwB.extract (x4_2 : Int).toNat ((wrap64 ((wrap64 (x4_2 + (a0.size : Int))) + 2)) : Int).toNat).toList != (((⟨#[32]⟩ : ByteArray) ++ a0) ++ (⟨#[32]⟩ : ByteArray)).toList) = true := bne_iff_ne.mpr c15
                          have H' := Aside0.mk H
                          clear H
                          go_wp2
                          go_roundg k2
                          case measure => have := HK1.out; have := HK2.out; omega
                          case rel => exact ⟨(wrap64 (x4_2 + 1)), (by first | rfl | (simp; done) | (simp [*]; done)), H', ⟨by have := HK1.out; have := HK2.out; omega⟩, by repeat (first | exact Drawn0.refl _ | apply Drawn0.step)⟩
                      · rw [if_neg c14] at H
                        exact absurd H (by simp)
                    · rw [if_neg c13] at H
                      exact absurd H (by simp)
                  · rw [if_neg c11] at H
                    exact absurd H (by simp)
                · rw [if_neg c10] at H
                  exact absurd H (by simp)
              · rw [if_neg c9] at H
                have c9b0 : decide ((wrap64 ((wrap64 (x4_2 + (a0.size : Int))) + 2)) ≤ 372) = false := decide_eq_false c9
                clear c9
                obtain rfl := Option.some.inj H
                go_wp2
                go_ret
                exact ⟨by first | rfl | (simp; done) | (simp [*]; done), by repeat (first | exact Drawn0.refl _ | apply Drawn0.step)⟩

end Go.Proofs.YthgfdnffnbclpaaDoor.PAll
namespace Go.Proofs.YthgfdnffnbclpaaDoor.PAll
open Go.RowKit Go.Shelf Go.Proofs.YthgfdnffnbclpaaDoorW.PrintWords Go.Proofs.YthgfdnffnbclpaaDoorW.PrintLast Go.Proofs.YthgfdnffnbclpaaDoorW.PrintMore
attribute [local go_sem] Oper.semAt_some

def spB (c : UInt8) : Bool := decide (c.toNat = 9 ∨ c.toNat = 10 ∨ c.toNat = 11 ∨ c.toNat = 12 ∨ c.toNat = 13 ∨ c.toNat = 32)
/-- The pieces between blanks, a piece being under way. -/
def flds : List UInt8 → List UInt8 → List (List UInt8)
  | acc, [] => if acc = [] then [] else [acc]
  | acc, c :: r => if spB c = true then (if acc = [] then flds [] r else acc :: flds [] r) else flds (acc ++ [c]) r
def pieces (s : ByteArray) : List ByteArray := (flds [] s.data.toList).map fun b => ⟨b.toArray⟩

/-- What a round keeps: what lies below a block, and the block of the iterator's own text. -/
def KpF (n₀ Bs : Nat) (A B : World) : Prop := Below n₀ A B ∧ B.heap[Bs]? = A.heap[Bs]?
theorem KpF.trans {n₀ Bs : Nat} {A B C : World} (h : KpF n₀ Bs A B) (k : KpF n₀ Bs B C) : KpF n₀ Bs A C := ⟨h.1.trans k.1, k.2.trans h.2⟩
theorem KpF.refl (n₀ Bs : Nat) (A : World) : KpF n₀ Bs A A := ⟨Below.refl _ _, rfl⟩
theorem cell_same {A B : World} {b : Nat} (h : B.heap[b]? = A.heap[b]?) (j : Nat) : B.cell? ⟨b, j, none⟩ = A.cell? ⟨b, j, none⟩ := by simp [World.cell?, h]
theorem sdrop_at {s : ByteArray} {k : Nat} (h : k < s.size) : s.data.toList.drop k = s[k] :: s.data.toList.drop (k + 1) := by
  have h' : k < s.data.toList.length := by simpa using h
  rw [List.drop_eq_getElem_cons h']
  rfl
theorem extract_list (s : ByteArray) (a b : Nat) : s.extract a b = ⟨((s.data.toList.drop a).take (b - a)).toArray⟩ := by
  apply ByteArray.ext
  rw [ByteArray.data_extract]
  apply Array.toList_inj.mp
  simp

set_option maxRecDepth 100000 in
set_option maxHeartbeats 4000000 in
theorem fields1_in (F : Fence) (n : Nat) (h54 : F.fn 92) (hro : F.round = none) (hn : 1 ≤ n) (l Bs n₀ : Nat) (s : ByteArray) (hasc : ∀ b ∈ s.data.toList, b.toNat < 128) (hsz : s.size ≤ 4294967296) (J Jx : List ByteArray → World → Prop)
    (hY : ∀ pre x W, J pre W → pre.length < s.size + 1 → YieldAt F (n - 1) Tryd.prog l #[.string x] W fun e W' =>
      (e = .returned (.bool true) ∧ J (pre ++ [x]) W' ∧ KpF n₀ Bs W W') ∨ (e = .returned (.bool false) ∧ Jx (pre ++ [x]) W'))
    (W : World) (hBs : W.cell? ⟨Bs, 0, none⟩ = some (.string s)) (hT : ∀ c : Nat, c < 256 → W.cell? ⟨0, c, none⟩ = some (.int .u8 (if c = 9 ∨ c = 10 ∨ c = 11 ∨ c = 12 ∨ c = 13 ∨ c = 32 then 1 else 0))) (h0n : 0 < n₀) (h0 : J [] W) :
    CallsIn F n Tryd.prog 92 #[.func (.yield l) #[] #[], .pointer (some ⟨Bs, 0, none⟩)] W fun e W' => (∃ v, e = .returned v) ∧
      ((∃ ys, ys = pieces s ∧ J ys W') ∨ (∃ pre, pre <+: pieces s ∧ Jx pre W')) := by
  refine callsIn_of_wp Tryd.func92 rfl h54 ?_ hro
  simp only [Tryd.ntmps92, List.size_toArray, List.length_cons, List.length_nil, Nat.reduceAdd, Nat.reduceSub, Array.replicate_succ, Array.replicate_zero, List.push_toArray, List.append_toArray, List.nil_append, List.cons_append]
  gi_wp2
  gi_loopw [3, 4] (fun v3 v4 wr => ∃ (i : Nat) (pre : List ByteArray) (acc : List UInt8), v4 = .int .i64 i ∧ i ≤ s.size ∧ ((v3 = .int .i64 (-1) ∧ acc = []) ∨ ∃ st : Nat, v3 = .int .i64 st ∧ st < i ∧ acc = (s.data.toList.drop st).take (i - st)) ∧
      Aside0 (pieces s = pre ++ (flds acc (s.data.toList.drop i)).map (fun b => (⟨b.toArray⟩ : ByteArray))) ∧ pre.length ≤ i ∧ J pre wr ∧ KpF n₀ Bs W wr)
    (fun _ i _ => s.size - (intOf i).toNat)
  case atStart => exact ⟨0, [], [], rfl, Nat.zero_le _, .inl ⟨rfl, rfl⟩, ⟨rfl⟩, Nat.le_refl _, h0, KpF.refl _ _ _⟩
  case round =>
    obtain ⟨i, pre, acc, rfl, hi, hst, HF, hpl, hJs, hK⟩ := hrel
    have hs : wr.cell? ⟨Bs, 0, none⟩ = some (.string s) := (cell_same hK.2 0).trans hBs
    by_cases hlt : i < s.size
    · have hd := sdrop_at hlt
      have hc128 : s[i].toNat < 128 := hasc _ (by rw [← List.mem_toArray, Array.toArray_toList]; exact Array.getElem_mem _)
      have hcell : wr.cell? ⟨0, s[i].toNat, none⟩ = some (.int .u8 (if s[i].toNat = 9 ∨ s[i].toNat = 10 ∨ s[i].toNat = 11 ∨ s[i].toNat = 12 ∨ s[i].toNat = 13 ∨ s[i].toNat = 32 then 1 else 0)) := (hK.1.cell (p := ⟨0, s[i].toNat, none⟩) h0n).trans (hT _ (by omega))
      have hci : (↑s[i].toNat : Int) < 128 := by omega
      have hci0 : (0 : Int) ≤ (↑s[i].toNat : Int) := by omega
      by_cases hsp : s[i].toNat = 9 ∨ s[i].toNat = 10 ∨ s[i].toNat = 11 ∨ s[i].toNat = 12 ∨ s[i].toNat = 13 ∨ s[i].toNat = 32
      · rw [if_pos hsp] at hcell
        have hspB : spB s[i] = true := decide_eq_true hsp
        rcases hst with ⟨rfl, rfl⟩ | ⟨st, rfl, hst1, rfl⟩
        · have HF' : Aside0 (pieces s = pre ++ (flds [] (s.data.toList.drop (i + 1))).map (fun b => (⟨b.toArray⟩ : ByteArray))) := by
            have h1 := HF.out
            rw [hd, flds, if_pos hspB, if_pos rfl] at h1
            exact ⟨h1⟩
          clear HF hd hT hsp hspB
          gi_wp2
          go_roundw
          case rel => exact ⟨i + 1, pre, [], by first | rfl | simp, by omega, .inl ⟨rfl, rfl⟩, HF', by omega, hJs, hK⟩
          case measure => simp [intOf]; omega
        · have hne : (s.data.toList.drop st).take (i - st) ≠ [] := by
            intro e
            have := congrArg List.length e
            simp at this
            omega
          have hex : s.extract st i = ⟨((s.data.toList.drop st).take (i - st)).toArray⟩ := extract_list s st i
          have HF' : Aside0 (pieces s = (pre ++ [s.extract st i]) ++ (flds [] (s.data.toList.drop (i + 1))).map (fun b => (⟨b.toArray⟩ : ByteArray))) := by
            have h1 := HF.out
            rw [hd, flds, if_pos hspB, if_neg hne] at h1
            rw [h1, hex]
            exact ⟨by simp⟩
          obtain ⟨fn, tmps, assign, body, hy, hR⟩ := hY pre (s.extract st i) wr hJs (by omega)
          have j0 : (0 : Int) ≤ (st : Int) := by omega
          have j1 : (st : Int) ≤ (i : Int) := by omega
          have j2 : (i : Int) ≤ (s.size : Int) := by omega
          clear HF hd hT hsp hspB hne hex
          gi_wp2
          refine hR.mono ?_
          rintro e W3 (⟨rfl, hJ3, hk3⟩ | ⟨rfl, hJx3⟩)
          · gi_wp2
            go_roundw
            case rel => exact ⟨i + 1, pre ++ [s.extract st i], [], by first | rfl | simp, by omega, .inl ⟨rfl, rfl⟩, HF', by simp; omega, hJ3, hK.trans hk3⟩
            case measure => simp [intOf]; omega
          · gi_wp2
            refine bodyPost_ret (results_none rfl _ _ _) rfl ?_
            exact ⟨⟨_, rfl⟩, .inr ⟨_, ⟨_, HF'.out.symm⟩, hJx3⟩⟩
      · rw [if_neg hsp] at hcell
        have hspB : ¬ spB s[i] = true := by simpa [spB] using hsp
        rcases hst with ⟨rfl, rfl⟩ | ⟨st, rfl, hst1, rfl⟩
        · have hacc : [s[i]] = (s.data.toList.drop i).take (i + 1 - i) := by rw [hd]; simp
          have HF' : Aside0 (pieces s = pre ++ (flds ((s.data.toList.drop i).take (i + 1 - i)) (s.data.toList.drop (i + 1))).map (fun b => (⟨b.toArray⟩ : ByteArray))) := by
            have h1 := HF.out
            rw [hd, flds, if_neg hspB, List.nil_append] at h1
            rw [← hacc]
            exact ⟨h1⟩
          clear HF hd hT hsp hspB hacc
          gi_wp2
          go_roundw
          case rel => exact ⟨i + 1, pre, _, by first | rfl | simp, by omega, .inr ⟨i, rfl, by omega, rfl⟩, HF', by omega, hJs, hK⟩
          case measure => simp [intOf]; omega
        · have hacc : (s.data.toList.drop st).take (i - st) ++ [s[i]] = (s.data.toList.drop st).take (i + 1 - st) := by
            have e1 : i + 1 - st = (i - st) + 1 := by omega
            rw [e1, List.take_add_one]
            congr 1
            rw [List.getElem?_drop, show st + (i - st) = i by omega]
            have h' : i < s.data.toList.length := by simpa using hlt
            rw [List.getElem?_eq_getElem h']
            rfl
          have HF' : Aside0 (pieces s = pre ++ (flds ((s.data.toList.drop st).take (i + 1 - st)) (s.data.toList.drop (i + 1))).map (fun b => (⟨b.toArray⟩ : ByteArray))) := by
            have h1 := HF.out
            rw [hd, flds, if_neg hspB, hacc] at h1
            exact ⟨h1⟩
          have j0 : ¬ (st : Int) < 0 := by omega
          clear HF hd hT hsp hspB hacc
          gi_wp2
          go_roundw
          case rel => exact ⟨i + 1, pre, _, by first | rfl | simp, by omega, .inr ⟨st, rfl, by omega, rfl⟩, HF', by omega, hJs, hK⟩
          case measure => simp [intOf]; omega
    · obtain rfl : i = s.size := by omega
      have hnil : s.data.toList.drop s.size = [] := List.drop_eq_nil_of_le (by simp)
      rcases hst with ⟨rfl, rfl⟩ | ⟨st, rfl, hst1, rfl⟩
      · have HF' : Aside0 (pieces s = pre) := by
          have h1 := HF.out
          rw [hnil, flds, if_pos rfl] at h1
          exact ⟨by simpa using h1⟩
        clear HF
        gi_wp2
        go_end0
        exact ⟨⟨_, rfl⟩, .inl ⟨pre, HF'.out.symm, hJs⟩⟩
      · have hne : (s.data.toList.drop st).take (s.size - st) ≠ [] := by
          intro e
          have := congrArg List.length e
          simp at this
          omega
        have hex : s.extract st s.size = ⟨((s.data.toList.drop st).take (s.size - st)).toArray⟩ := extract_list s st s.size
        have HF' : Aside0 (pieces s = pre ++ [s.extract st s.size]) := by
          have h1 := HF.out
          rw [hnil, flds, if_neg hne] at h1
          rw [h1, hex]
          exact ⟨rfl⟩
        obtain ⟨fn, tmps, assign, body, hy, hR⟩ := hY pre (s.extract st s.size) wr hJs (by omega)
        have j0 : (0 : Int) ≤ (st : Int) := by omega
        have j2 : (st : Int) ≤ (s.size : Int) := by omega
        clear HF hnil hne hex hT
        gi_wp2
        refine hR.mono ?_
        rintro e W3 (⟨rfl, hJ3, hk3⟩ | ⟨rfl, hJx3⟩)
        · gi_wp2
          go_end0
          exact ⟨⟨_, rfl⟩, .inl ⟨_, HF'.out.symm, hJ3⟩⟩
        · gi_wp2
          go_end0
          exact ⟨⟨_, rfl⟩, .inr ⟨_, ⟨[], by rw [List.append_nil]; exact HF'.out.symm⟩, hJx3⟩⟩
end Go.Proofs.YthgfdnffnbclpaaDoor.PAll
