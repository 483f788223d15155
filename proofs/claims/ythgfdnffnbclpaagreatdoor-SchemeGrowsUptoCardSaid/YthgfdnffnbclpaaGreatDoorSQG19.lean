import Derived.Test.YthgfdnffnbclpaaGreatDoorSQG04
import Derived.Test.YthgfdnffnbclpaaGreatDoorSQG18
import Derived.JoinedCond
import Derived.HandedShaped
import Derived.Test.YthgfdnffnbclpaaGreatDoorSQG16
import Derived.Test.YthgfdnffnbclpaaGreatDoorSQG17
import Derived.Test.YthgfdnffnbclpaaGreatDoorSQG14
import Derived.Test.YthgfdnffnbclpaaGreatDoorSQG13
import Derived.Test.YthgfdnffnbclpaaGreatDoorSQG06
import Derived.Test.YthgfdnffnbclpaaGreatDoorSQG15
set_option linter.unusedVariables false
set_option linter.unusedSimpArgs false
namespace Go.Proofs.YthgfdnffnbclpaaGreatDoor
open Go.ChangeShapes Go.WideShapes Go.ChangeAt Go.Deep Go.RowKit
open Go.Proofs.YthgfdnffnbclpaaGreatDoorW.PrintWords Go.Proofs.YthgfdnffnbclpaaGreatDoorW.PrintLast Go.Proofs.YthgfdnffnbclpaaGreatDoorW.PrintMore Go.Proofs.YthgfdnffnbclpaaGreatDoor.PAll
section
variable {H : Type}
theorem bulk_pos (d : DataW H) : 1 ≤ Rows.uptoBulk d := by
 cases d with
 | lit l => cases l <;> simp [Rows.uptoBulk]
 | _ => simp [Rows.uptoBulk]
theorem bulk_len : ∀ l : List (DataW H), l.length ≤ Rows.uptoBulkAll l
 | [] => Nat.le_refl _
 | d :: r => by
  have h1 := bulk_len r
  have h2 := bulk_pos d
  simp only [Rows.uptoBulkAll, List.length_cons]
  omega
theorem bulk_mem {d : DataW H} : ∀ {l : List (DataW H)}, d ∈ l → Rows.uptoBulk d ≤ Rows.uptoBulkAll l
 | [], h => by cases h
 | e :: r, h => by
  simp only [Rows.uptoBulkAll]
  rcases List.mem_cons.1 h with rfl | h
  ·omega
  ·have := bulk_mem h
   omega
end
section
variable {H : Type} (enc : TypeId × Value → H) (w : World)
def OpB {α : Type} (d : Kd α) (t : TypeId) (ok : α → Nat → Prop) : Prop := ∀ n cs y, DataW.trod enc Tryz.prog w 0 (fun _ => true) true n t cs = some y → ∃ x, d.K w x cs ∧ ok x (Rows.uptoBulk y.1)
variable {enc w}
theorem OpB.mono {α : Type} {d : Kd α} {t : TypeId} {ok ok' : α → Nat → Prop} (h : OpB enc w d t ok) (hm : ∀ x b, ok x b → ok' x b) : OpB enc w d t ok' := fun n cs y hy => by
 obtain ⟨x, h1, h2⟩ := h n cs y hy
 exact ⟨x, h1, hm _ _ h2⟩
theorem opb_of {α : Type} {d : Kd α} {t : TypeId} {ok : α → Prop} (h : OpK enc w d t ok) : OpB enc w d t (fun x _ => ok x) := fun n cs y hy => h n cs y hy
theorem opb_slice {α : Type} {d : Kd α} {t e : TypeId} {ok : α → Nat → Prop} (ht : Tryz.prog.underlying t = some (.slice e)) (hsz : Tryz.prog.cellsOf e = d.sz) (hd : OpB enc w d e ok) (hm : ∀ x b c, b ≤ c → ok x b → ok x c) :
  OpB enc w (Kd.slice e d) t (fun xs b => xs.length ≤ maxLen ∧ xs.length ≤ b ∧ ∀ x ∈ xs, ok x b) := fun n cs y h => by
 rcases open_slice ht h with ⟨hcs, _⟩ | ⟨a, len, cap, m, n', D, Pl, hcs, hb, hl, hmx, hmm, hy, hi⟩
 ·exact ⟨[], ⟨none, 0, hcs, Nat.le_refl _, ⟨rfl, by simp, fun h => by simp at h⟩⟩, by simp, by simp, fun x hx => by cases hx⟩
 ·have hmc : m = cap := by simpa using hmm
  have hbk : len ≤ Rows.uptoBulk y.1 ∧ ∀ i, i < len → Rows.uptoBulk (D i) ≤ Rows.uptoBulk y.1 := by
   rw [hy]
   simp only [Rows.uptoBulk]
   have h1 := bulk_len ((List.range len).map D)
   rw [List.length_map, List.length_range] at h1
   refine ⟨by omega, fun i hil => ?_⟩
   have h2 := bulk_mem (d := D i) (l := (List.range len).map D) (List.mem_map.2 ⟨i, List.mem_range.2 hil, rfl⟩)
   omega
  have key : ∀ i, i < len → ∃ (x : α) (c : List Value), d.K w x c ∧ ok x (Rows.uptoBulk y.1) ∧ ∀ j u, c[j]? = some u → w.cell? (a.add (i * d.sz + j)) = some u := fun i hil => by
   obtain ⟨cs', hc, ht'⟩ := hi i (by omega)
   rw [hsz] at hc
   obtain ⟨x, hK, ho⟩ := hd _ _ _ ht'
   obtain ⟨_, hcl, hat⟩ := World.cells?_some hc
   refine ⟨x, cs', hK, hm _ _ _ (hbk.2 i hil) ho, fun j u hj => ?_⟩
   have hjl : j < d.sz := by rw [← hcl]; exact (List.getElem?_eq_some_iff.1 hj).1
   rw [← Go.Deep.add_add, hat j hjl, hj]
  by_cases h0 : len = 0
  ·subst h0
   exact ⟨[], ⟨some a, cap, hcs, Nat.zero_le _, ⟨rfl, by simp, fun h => by simp at h⟩⟩, by simp, by simp, fun x hx => by cases hx⟩
  obtain ⟨x0, _⟩ := key 0 (by omega)
  let f : Nat → α := fun i => if h : i < len then Classical.choose (key i h) else x0
  have hf : ∀ i, i < len → ∃ c, d.K w (f i) c ∧ ok (f i) (Rows.uptoBulk y.1) ∧ ∀ j u, c[j]? = some u → w.cell? (a.add (i * d.sz + j)) = some u := by
   intro i h
   have := Classical.choose_spec (key i h)
   simp only [f, dif_pos h]
   exact this
  have hlen : ((List.range len).map f).length = len := by simp
  refine ⟨(List.range len).map f, ⟨some a, cap, by rw [hlen]; exact hcs, by rw [hlen]; exact hl, ⟨rfl, ?_, fun _ => ⟨a, rfl, ?_⟩⟩⟩, ?_, ?_, ?_⟩
  ·rw [hlen]; have : maxLen = 9223372036854775807 := by decide
   omega
  ·intro j x hj
   have hjl : j < len := by
    have := (List.getElem?_eq_some_iff.1 hj).1
    simpa using this
   have : x = f j := by
    rw [List.getElem?_map, List.getElem?_range hjl] at hj
    simpa using hj.symm
   subst this
   obtain ⟨c, h1, _, h3⟩ := hf j hjl
   exact ⟨c, d.K_len h1, h1, h3⟩
  ·rw [hlen]; omega
  ·rw [hlen]; exact hbk.1
  ·intro x hx
   obtain ⟨i, hi', rfl⟩ := List.mem_map.1 hx
   obtain ⟨c, _, h2, _⟩ := hf i (List.mem_range.1 hi')
   exact h2
theorem opb_fields {e : TypeId} {fs : Array Field} (he : Tryz.prog.underlying e = some (.struct fs)) (hone : oneCellFields Tryz.prog fs = true) {n : Nat} {cs : List Value} {y : DataW H × List MemPlace}
  (h : DataW.trod enc Tryz.prog w 0 (fun _ => true) true n e cs = some y) (hcl : cs.length = fs.size) : ∀ (j : Nat) (f : Field), fs[j]? = some f → ∃ (v : Value) (m : Nat) (z : DataW H × List MemPlace), cs[j]? = some v ∧ DataW.trod enc Tryz.prog w 0 (fun _ => true) true m f.type [v] = some z ∧ Rows.uptoBulk z.1 ≤ Rows.uptoBulk y.1 := by
 obtain ⟨ys, n', hn', hy, hlen, hyl, hf⟩ := DataW.trod_struct he h
 intro j f hj
 obtain ⟨ho, hk⟩ := hone_of hone j f hj
 have hjl : j < fs.size := (Array.getElem?_eq_some_iff.1 hj).1
 have hv : cs[j]? = some (cs[j]'(by omega)) := List.getElem?_eq_getElem (by omega)
 have h1 := hf j f hj
 rw [ho, hk] at h1
 have hone' : (cs.drop j).take 1 = [cs[j]'(by omega)] := by
  rw [List.drop_eq_getElem_cons (by omega)]
  rfl
 rw [hone'] at h1
 have hys : ys[j]? = some (ys[j]'(by omega)) := List.getElem?_eq_getElem (by omega)
 refine ⟨_, _, _, hv, h1.trans hys, ?_⟩
 rw [hy]
 simp only [Rows.uptoBulk]
 have := bulk_mem (d := (ys[j]'(by omega)).1) (l := ys.map (·.1)) (List.mem_map.2 ⟨_, List.getElem_mem _, rfl⟩)
 omega
end
section
variable {H : Type} {enc : TypeId × Value → H} {w : World}
set_option maxRecDepth 100000 in
theorem open_argB {α : Type} {d : Kd α} {t e : TypeId} {ok : α → Nat → Prop} (ht : Tryz.prog.underlying t = some (.slice e)) (hsz : Tryz.prog.cellsOf e = d.sz) (hd : OpB enc w d e ok) (hm : ∀ x b c, b ≤ c → ok x b → ok x c) {v : Value} {x : DataW H} {p : List MemPlace} {base : Nat}
  (hv : Value.okWide Tryz.prog w .any base t v) (h : DataW.Trod enc Tryz.prog w 0 (fun _ => true) true t v x p) : ∃ (A : Option Addr) (cap : Nat) (l : List α), v = .slice A l.length cap ∧ l.length ≤ cap ∧ d.C w A l.length l ∧ l.length ≤ maxLen ∧ l.length ≤ Rows.uptoBulk x ∧ ∀ z ∈ l, ok z (Rows.uptoBulk x) := by
 obtain ⟨A0, len0, cap0, rfl⟩ := okWide_slice ht hv
 obtain ⟨fuel, hf⟩ := h
 obtain ⟨l, ⟨A, c, hcs, hl, hC⟩, h1, h2, h3⟩ := opb_slice ht hsz hd hm _ _ _ hf
 have hcs' : (Value.slice A0 len0 cap0) = .slice A l.length c := by simpa [Value.cells] using hcs
 exact ⟨A, c, l, hcs', hl, hC, h1, h2, h3⟩
theorem opbRow : OpB enc w (Kd.slice 87 k64) 89 (fun l b => okRow l ∧ l.length ≤ b) := (opb_slice (t := 89) (e := 87) Tryz.underlying89 (by kernel_rfl) (opb_of opk64) (fun _ _ _ _ h => h)).mono (fun x b h => ⟨⟨h.1, h.2.2⟩, h.2.1⟩)
end
end Go.Proofs.YthgfdnffnbclpaaGreatDoor
namespace Go
variable {H : Type} {enc : TypeId × Value → H}
theorem returnsInHanded_of_cond_all {a : Assume} {C : Checked} {os : Os} {f : FuncId} {fn : Func} {s : OpenSpec} {k : (H : Type) → List (DataW H) → Bool} (hk : s.cond = some k) {F : Stop.Interp} {conds : List PathCond} {apart fresh handsOn again : Bool} {X : World → Array Value → Prop}
  (hX : ∀ (w w' : World) (args : Array Value), w.heap = w'.heap → X w args → X w' args)
  (own : ownKnob C.prog.godebug = none) (started : os.Started) (noInit : C.prog.inits.idxOf? f = none) (hfn : C.prog.funcs[f]? = some fn)
  (witness : ∃ (w : World) (tape : Tape) (i : Input), w.os = os ∧ (w.forCall tape i).Shaped C.prog ∧ i.vars = [] ∧ Input.okWide C.prog (w.forCall tape i) .any w.heap.size f i ∧
   ((s.pre enc C.prog fn conds apart (w.forCall tape i).memory i.args ∧ X (w.forCall tape i).memory i.args) ∧ sizedMet enc C.prog fn s apart (w.forCall tape i).memory i.args) ∧ a.holds C.prog (lone (Frame.enter C.prog f i.args .normal) [] (w.forCall tape i)))
  (contract : ∀ (W : World) (base : Nat) (args : Array Value) (ds gs : List (DataW H)) (before : List MemPlace),
   (∀ (j : Nat) t v, fn.params[j]? = some t → args[j]? = some v → Value.okWide C.prog W .any base t v) →
   DataW.Whole enc C.prog fn.params.toList s.vars apart W args.toList ds gs before →
   conds.all (PathCond.test C.prog ⟨fn.params.toList, ds, s.bare.plain.varTypes C.prog, gs⟩) = true → k H (ds ++ gs) = true → X W args → W.ShapedOpen C.prog →
   a.holds C.prog (lone (Frame.enter C.prog f args .normal) [] W) →
   Calls C.prog f args W fun e W' => ∃ v, e = .returned v ∧ (s.at F).post enc C.prog fn apart fresh handsOn again W args v W') :
  ReturnsInHanded a C os f .any (fun w args => (s.pre enc C.prog fn conds apart w args ∧ X w args) ∧ sizedMet enc C.prog fn s apart w args) ((s.at F).post enc C.prog fn apart fresh handsOn again) := by
 refine returnsInHanded_of_calls own started noInit witness ?_
 intro w tape i _ hsh _ hok hpre hholds
 obtain ⟨_, _, _, fn', hfn', _, _, _, _, hval⟩ := hok
 have e : fn' = fn := Option.some.inj (hfn'.symm.trans hfn)
 subst e
 obtain ⟨⟨hp, hx⟩, _⟩ := hpre
 obtain ⟨ds, gs, before, hw, hc, hkk⟩ := (OpenSpec.pre_some hk conds apart _ _).1 hp
 have hw' := DataW.Whole.of_heap (w' := w.forCall tape i) (by rfl) hw
 refine (contract (w.forCall tape i) w.heap.size i.args ds gs before hval hw' hc hkk (hX _ _ _ (by rfl) hx) hsh hholds).mono fun e W' ⟨v, he, hp⟩ => ?_
 subst he
 exact ChangeSpec.post_blind hp
theorem OpenSpec.witness_all {C : Checked} {os : Os} {f : FuncId} {fn : Func} {s : OpenSpec} {k : (H : Type) → List (DataW H) → Bool} (hk : s.cond = some k) {conds : List PathCond} {apart : Bool} {X : World → Array Value → Prop} (modest : Bool) (w0 : World) (args : Array Value) (fuel : Nat) (hos : w0.os = os)
  (hsh : (w0.forCall (fun _ _ => 0) ⟨#[], args, []⟩).Shaped C.prog)
  (hok : Input.okWideB C.prog (w0.forCall (fun _ _ => 0) ⟨#[], args, []⟩) f ⟨#[], args, []⟩ = true)
  {x : List (DataW H) × List (DataW H) × List MemPlace} (hx : DataW.whole enc C.prog (w0.forCall (fun _ _ => 0) ⟨#[], args, []⟩).memory fn.params.toList s.vars apart args.toList fuel = some x)
  (hconds : conds.all (PathCond.test C.prog ⟨fn.params.toList, x.1, s.bare.plain.varTypes C.prog, x.2.1⟩) = true) (hkk : k H (x.1 ++ x.2.1) = true)
  (hsz : s.bare.sizedB enc C.prog fn apart (w0.forCall (fun _ _ => 0) ⟨#[], args, []⟩).memory args fuel = true)
  (hX : X (w0.forCall (fun _ _ => 0) ⟨#[], args, []⟩).memory args) :
  ∃ (w : World) (tape : Tape) (i : Input), w.os = os ∧ (w.forCall tape i).Shaped C.prog ∧ i.vars = [] ∧ Input.okWide C.prog (w.forCall tape i) .any w.heap.size f i ∧
   ((s.pre enc C.prog fn conds apart (w.forCall tape i).memory i.args ∧ X (w.forCall tape i).memory i.args) ∧ sizedMet enc C.prog fn s apart (w.forCall tape i).memory i.args) ∧ ({ modest := modest } : Assume).holds C.prog (lone (Frame.enter C.prog f i.args .normal) [] (w.forCall tape i)) :=
 ⟨w0, fun _ _ => 0, ⟨#[], args, []⟩, hos, hsh, (Input.okWide_of_okWideB (base := 0) hok).1, (Input.okWide_of_okWideB hok).2,
  ⟨⟨(OpenSpec.pre_some hk conds apart _ _).2 ⟨x.1, x.2.1, x.2.2, DataW.Whole_of_whole hx, hconds, hkk⟩, hX⟩, sizedMet_of_sizedB hsz⟩, by
  simp only [Assume.holds]
  exact ⟨by simp, by simp, fun _ => Modest.zero, by simp, by simp⟩⟩
end Go
namespace Go.Proofs.YthgfdnffnbclpaaGreatDoor.PAll
open Go.RowKit Go.Proofs.YthgfdnffnbclpaaGreatDoorW.PrintWords Go.Proofs.YthgfdnffnbclpaaGreatDoorW.PrintLast Go.Proofs.YthgfdnffnbclpaaGreatDoorW.PrintMore
def refFromP (s : List S49) (d : Data) : Nat → Nat → Option Bool
 | 0, _ => some true
 | g + 1, m => (refRefsP s d m (rd_T49 s m).f3).bind fun b => if b = true then refFromP s d g (m + 1) else some false
theorem errs_fit {t : S49} : ∀ {rows : Rows}, errsP t rows = 0 → ∀ row ∈ rows, row.length = t.f1.length
 | [], _, row, h => by cases h
 | x :: r, h, row, hm => by
  rw [errsP] at h
  split at h
  ·rename_i q
   rcases List.mem_cons.1 hm with rfl | hm
   ·unfold fitsRowP at q
    split at q
    ·assumption
    ·cases q
   ·exact errs_fit h row hm
  ·rename_i q; exact absurd h q
theorem smallRows_of {s : List S49} (hv : validB s = true) {n : Nat} (hn : n < s.length) {rows : Rows} (h : errsP (rd_T49 s (n : Int)) rows = 0) (hl : rows.length ≤ 1000) : smallRows rows := by
 have h3 := (tabB_facts ((validB_at hv).2 n hn)).1
 exact ⟨by omega, fun row hr => by rw [errs_fit h row hr]; omega⟩
theorem rd13_set {d : Data} {n m : Nat} {x : Rows} (hm : m < d.length) : rd_L13 (d.set n x) (m : Int) = if m = n then x else rd_L13 d (m : Int) := by
 unfold rd_L13
 rw [List.getD_eq_getElem?_getD, List.getD_eq_getElem?_getD, Int.toNat_natCast, List.getElem?_set]
 by_cases e : n = m
 ·subst e; simp [hm]
 ·rw [if_neg e, if_neg (fun h => e h.symm)]
theorem set_fit {s : List S49} {d : Data} (h : dataB s d = true) {n : Nat} {x : Rows} (hx : ∀ row ∈ x, row.length = (rd_T49 s (n : Int)).f1.length) : ∀ m, m < s.length → ∀ row ∈ rd_L13 (d.set n x) (m : Int), row.length = (rd_T49 s (m : Int)).f1.length := by
 intro m hm row hr
 obtain ⟨_, hl, _, _⟩ := dataB_facts h
 rw [rd13_set (by omega)] at hr
 by_cases e : m = n
 ·rw [if_pos e] at hr; rw [e]; exact hx row hr
 ·rw [if_neg e] at hr; exact fit_rows h m hm row hr
def insAtB (s : List S49) (d : Data) (n : Nat) (rows : Rows) : Data × Int :=
 if errsP (rd_T49 s n) rows = 0 then
  if ((rd_L13 d n).length : Int) + (rows.length : Int) > 1000 then ([], 72)
  else if ((rd_T49 s n).f2.all fun k => KB k [] (rd_L13 d n ++ rows)) = true then
   if (rd_T49 s n).f3.all (refHB s (d.set n (rd_L13 d n ++ rows)) n) = true then (d.set n (rd_L13 d n ++ rows), 0) else ([], 77)
  else ([], 76)
 else ([], errsP (rd_T49 s n) rows)
def insB (s : List S49) (d : Data) (nm : ByteArray) (rows : Rows) : Data × Int :=
 if dataB s d = true then if (findB s nm).2 = true then insAtB s d (findB s nm).1.toNat rows else ([], 71) else ([], 1)
theorem new_fit {s : List S49} {d : Data} (h : dataB s d = true) {n : Nat} (hn : n < s.length) {rows : Rows} (he : errsP (rd_T49 s n) rows = 0) : ∀ row ∈ rd_L13 d (n : Int) ++ rows, row.length = (rd_T49 s (n : Int)).f1.length := by
 intro row hr
 rcases List.mem_append.1 hr with hr | hr
 ·exact fit_rows h n hn row hr
 ·exact errs_fit he row hr
theorem insert_is (s : List S49) (hw : ∀ t ∈ s, wfT t) (d : Data) (nm : ByteArray) (rows : Rows) : Ev (fun k => insertP k s d nm rows) (insB s d nm rows) := by
 obtain ⟨K, hK⟩ := data_is s hw d
 refine ⟨K, fun k hk => ?_⟩
 have h := hK k hk
 simp only at h
 show insertP k s d nm rows = _
 unfold insertP insB
 rw [h, Option.bind_some]
 cases hd : dataB s d with
 | false => rfl
 | true =>
  obtain ⟨hv, hl, hf, _⟩ := dataB_facts hd
  rw [if_pos rfl, if_pos rfl]
  obtain ⟨f1, f2⟩ := find_pos hv nm
  by_cases q : 0 ≤ findP nm 0 s
  ·have hr : findP nm 0 s < (s.length : Int) := by have := findP_range nm s 0; omega
   rw [if_neg (by omega), f1 q, if_pos rfl]
   show _ = some (insAtB s d (findP nm 0 s).toNat rows)
   generalize findP nm 0 s = ni at *
   obtain ⟨n, rfl⟩ : ∃ n : Nat, ni = (n : Int) := ⟨ni.toNat, by omega⟩
   rw [Int.toNat_natCast]
   have hn : n < s.length := by omega
   unfold insAtB
   by_cases he : errsP (rd_T49 s n) rows = 0
   ·rw [if_pos he, if_pos he]
    by_cases q : ((rd_L13 d n).length : Int) + (rows.length : Int) > 1000
    ·rw [if_pos q, if_pos q]
    ·have hnew := new_fit hd hn he
     rw [if_neg q, if_neg q, (keys_is _ _ (key_ok hv n hn hnew)).1, Option.bind_some, (refs_is s (d.set n (rd_L13 d n ++ rows)) n _ (ref_ok hv (by rw [List.length_set]; exact hl) (set_fit hd hnew) n hn)).1, Option.bind_some]
     split <;> first | rfl | (split <;> rfl)
   ·rw [if_neg he, if_neg he]
  ·rw [if_pos (by omega), f2 q]; rfl
def fromB (s : List S49) (d : Data) : Nat → Nat → Bool
 | 0, _ => true
 | g + 1, m => ((rd_T49 s m).f3.all (refHB s d m)) && fromB s d g (m + 1)
def delAtB (s : List S49) (d : Data) (n : Nat) (gone : List Bool) : Data × Int :=
 if gone.length = (rd_L13 d n).length then
  if fromB s (d.set n (leftP (rd_L13 d n) gone)) (s.length - (n + 1)) (n + 1) = true then (d.set n (leftP (rd_L13 d n) gone), 0) else ([], 77)
 else ([], 78)
def delB (s : List S49) (d : Data) (nm : ByteArray) (gone : List Bool) : Data × Int :=
 if dataB s d = true then if (findB s nm).2 = true then delAtB s d (findB s nm).1.toNat gone else ([], 71) else ([], 1)
theorem from_is (s : List S49) (d : Data) (hok : ∀ m, m < s.length → ∀ r ∈ (rd_T49 s (m : Int)).f3, RefOk s d m r) : ∀ (g m : Nat), m + g = s.length → refFromP s d g m = some (fromB s d g m) ∧ refsFromP s d m (s.drop m) = some (fromB s d g m) := by
 intro g
 induction g with
 | zero => intro m hm; rw [List.drop_eq_nil_of_le (by omega)]; exact ⟨rfl, rfl⟩
 | succ g ih =>
  intro m hm
  obtain ⟨h1, h2⟩ := ih (m + 1) (by omega)
  obtain ⟨r1, r2⟩ := refs_is s d m _ (hok m (by omega))
  rw [refFromP, List.drop_eq_getElem_cons (by omega : m < s.length), refsFromP, ← rdT49 (by omega : m < s.length), r1, r2, Option.bind_some, Option.bind_some, h1, h2, fromB]
  cases (rd_T49 s (m : Int)).f3.all (refHB s d m) <;> exact ⟨rfl, rfl⟩
theorem holdsB_at (s : List S49) (d : Data) : ∀ (g i : Nat), i + g = s.length → holdsB s d g i = true → ∀ j, i ≤ j → j < s.length → (rd_T49 s (j : Int)).f3.all (refHB s d j) = true := by
 intro g
 induction g with
 | zero => intro i hi _ j h1 h2; omega
 | succ g ih =>
  intro i hi h j h1 h2
  rw [holdsB] at h
  simp only [Bool.and_eq_true] at h
  by_cases e : j = i
  ·rw [e]; exact h.2.1
  ·exact ih (i + 1) (by omega) h.2.2 j (by omega) h2
theorem RB_sub {cols key : List Int} {others rows rows' : Rows} (h : RB cols key others rows = true) (hs : ∀ x ∈ rows', x ∈ rows) : RB cols key others rows' = true := by
 unfold RB at h ⊢
 rw [List.all_eq_true] at h ⊢
 exact fun x hx => h x (hs x hx)
theorem ref_before {s : List S49} {n : Nat} (hv : validB s = true) (hn : n < s.length) {r : S75} (hr : r ∈ (rd_T49 s (n : Int)).f3) : 0 ≤ r.f1 ∧ r.f1 < (n : Int) := by
 have hb := (tabB_facts ((validB_at hv).2 n hn)).2.2 r hr
 have hlen : (s.take n).length = n := by rw [List.length_take]; omega
 unfold refB at hb
 rw [hlen] at hb
 split at hb
 ·cases hb
 split at hb
 ·cases hb
 omega
theorem del_before {s : List S49} {d : Data} (h : dataB s d = true) {n : Nat} (hn : n < s.length) (left : Rows) (hsub : ∀ x ∈ left, x ∈ rd_L13 d (n : Int)) (m : Nat) (hm : m ≤ n) : (rd_T49 s (m : Int)).f3.all (refHB s (d.set n left) m) = true := by
 obtain ⟨hv, hl, hf, hh⟩ := dataB_facts h
 have h1 := holdsB_at s d s.length 0 (by omega) hh m (by omega) (by omega)
 rw [List.all_eq_true] at h1 ⊢
 intro r hr
 have h2 := h1 r hr
 obtain ⟨b1, b2⟩ := ref_before hv (by omega : m < s.length) hr
 unfold refHB at h2 ⊢
 have e1 : rd_L13 (d.set n left) r.f1 = rd_L13 d r.f1 := by
  have := rd13_set (d := d) (n := n) (m := r.f1.toNat) (x := left) (by omega)
  rw [if_neg (by omega), Int.toNat_of_nonneg b1] at this
  exact this
 rw [e1, rd13_set (by omega)]
 by_cases e : m = n
 ·rw [if_pos e]; rw [e] at h2; exact RB_sub h2 hsub
 ·rw [if_neg e]; exact h2
theorem from_skip {s : List S49} {d : Data} {n : Nat} (hn : n < s.length) (h : ∀ m, m ≤ n → (rd_T49 s (m : Int)).f3.all (refHB s d m) = true) : ∀ (j m : Nat), m + j = n + 1 → fromB s d (s.length - m) m = fromB s d (s.length - (n + 1)) (n + 1) := by
 intro j
 induction j with
 | zero => intro m hm; rw [show m = n + 1 by omega]
 | succ j ih =>
  intro m hm
  rw [show s.length - m = (s.length - (m + 1)) + 1 by omega, fromB, h m (by omega), Bool.true_and]
  exact ih (m + 1) (by omega)
theorem del_ok {s : List S49} {d : Data} (h : dataB s d = true) {n : Nat} (hn : n < s.length) (gone : List Bool) : ∀ m, m < s.length → ∀ r ∈ (rd_T49 s (m : Int)).f3, RefOk s (d.set n (leftP (rd_L13 d n) gone)) m r := by
 obtain ⟨hv, hl, hf, hh⟩ := dataB_facts h
 exact ref_ok hv (by rw [List.length_set]; exact hl) (set_fit h (fun row hr => fit_rows h n hn row (leftP_mem _ _ row hr)))
theorem delete_is (s : List S49) (hw : ∀ t ∈ s, wfT t) (d : Data) (nm : ByteArray) (gone : List Bool) : Ev (fun k => deleteP k s d nm gone) (delB s d nm gone) := by
 obtain ⟨K, hK⟩ := data_is s hw d
 refine ⟨K, fun k hk => ?_⟩
 have h := hK k hk
 simp only at h
 show deleteP k s d nm gone = _
 unfold deleteP delB
 rw [h, Option.bind_some]
 cases hd : dataB s d with
 | false => rfl
 | true =>
  obtain ⟨hv, hl, hf, _⟩ := dataB_facts hd
  rw [if_pos rfl, if_pos rfl]
  obtain ⟨f1, f2⟩ := find_pos hv nm
  by_cases q : 0 ≤ findP nm 0 s
  ·have hr : findP nm 0 s < (s.length : Int) := by have := findP_range nm s 0; omega
   rw [if_neg (by omega), f1 q, if_pos rfl]
   show _ = some (delAtB s d (findP nm 0 s).toNat gone)
   generalize findP nm 0 s = ni at *
   obtain ⟨n, rfl⟩ : ∃ n : Nat, ni = (n : Int) := ⟨ni.toNat, by omega⟩
   rw [Int.toNat_natCast]
   have hn : n < s.length := by omega
   unfold delAtB
   by_cases e : gone.length = (rd_L13 d n).length
   ·have h1 := (from_is s _ (del_ok hd hn gone) s.length 0 (by omega)).2
    have h2 := from_skip (d := d.set n (leftP (rd_L13 d n) gone)) hn (fun m hm => del_before hd hn _ (fun x hx => leftP_mem _ _ x hx) m hm) (n + 1) 0 (by omega)
    rw [List.drop_zero] at h1
    rw [Nat.sub_zero] at h2
    rw [if_pos e, if_pos e, h1, h2, Option.bind_some]
    split <;> rfl
   ·rw [if_neg e, if_neg e]
  ·rw [if_pos (by omega), f2 q]; rfl
end Go.Proofs.YthgfdnffnbclpaaGreatDoor.PAll
namespace Go.Proofs.YthgfdnffnbclpaaGreatDoor.PAll
open Go.RowKit Go.Proofs.YthgfdnffnbclpaaGreatDoorW.PrintWords Go.Proofs.YthgfdnffnbclpaaGreatDoorW.PrintLast Go.Proofs.YthgfdnffnbclpaaGreatDoorW.PrintMore Go.Proofs.YthgfdnffnbclpaaGreatDoor
theorem wfRows_of {d : Rows} (h : ∀ row ∈ d, okRow row) : wfRows d := fun row hw x hx => (h row hw).2 x hx
end Go.Proofs.YthgfdnffnbclpaaGreatDoor.PAll
namespace Go.Proofs.YthgfdnffnbclpaaGreatDoor
open Go.ChangeShapes Go.WideShapes Go.Deep Go.RowKit
open Go.Proofs.YthgfdnffnbclpaaGreatDoorW.PrintWords Go.Proofs.YthgfdnffnbclpaaGreatDoorW.PrintLast Go.Proofs.YthgfdnffnbclpaaGreatDoorW.PrintMore Go.Proofs.YthgfdnffnbclpaaGreatDoor.PAll
end Go.Proofs.YthgfdnffnbclpaaGreatDoor
namespace Go.Proofs.YthgfdnffnbclpaaGreatDoor.PAll
open Go.RowKit Go.Proofs.YthgfdnffnbclpaaGreatDoorW.PrintWords Go.Proofs.YthgfdnffnbclpaaGreatDoorW.PrintLast Go.Proofs.YthgfdnffnbclpaaGreatDoorW.PrintMore
theorem S_ref {W : World} {base : Nat} {ok : Nat → Prop} {g n cap : Nat} {s : List S49} (h : Kd.S k49 72 W base ok (.slice (some ⟨g, 0, none⟩) n cap) s) (m i : Nat) (t : S49) (hm : s[m]? = some t) (r : S75) (hi : t.f3[i]? = some r) :
  ∃ gr cr, W.cell? ⟨g, m * 5 + 3, none⟩ = some (.slice (some ⟨gr, 0, none⟩) t.f3.length cr) ∧ W.cell? ⟨gr, i * 3 + 1, none⟩ = some (.int .i64 r.f1) ∧ W.frozen? ⟨gr, i * 3 + 1, none⟩ = false ∧ base ≤ gr ∧ gr < W.heap.size ∧
   ∀ u : Int, Kd.S k49 72 (W.setCell ⟨gr, i * 3 + 1, none⟩ (.int .i64 u)) base ok (.slice (some ⟨g, 0, none⟩) n cap) (s.set m (setR t i ⟨r.f0, u, r.f2⟩)) := by
 have hml := (List.getElem?_eq_some_iff.1 hm).1
 have hil := (List.getElem?_eq_some_iff.1 hi).1
 have hn := (Kd.S_reads' h).1
 obtain ⟨oki, c, hcl, hM, hcc, hoki, hH⟩ := Kd.S_lend h z49 (m : Int) (by omega) (by omega)
 rw [Int.toNat_natCast, List.getD_eq_getElem?_getD, hm] at hM
 obtain ⟨v1, v2, v3, v4, rfl, g1, g2, g3, g4⟩ := k49_openM (x := t) hM
 obtain ⟨gr, cr, rfl, hb1, hb2, cells, hgc⟩ := Kd.R_form g3 (by omega)
 obtain ⟨cc, hccl, hccM, hce⟩ := Kd.R_getA g3 z75 (i : Int) (by omega) (by omega)
 rw [Int.toNat_natCast, List.getD_eq_getElem?_getD, hi] at hccM
 obtain ⟨v0, rfl, gi⟩ := k75_openM (x := r) hccM
 have h0 := hcc 3 _ rfl
 have h1 := hce 1 _ rfl
 rw [add_plain, Int.toNat_natCast] at h1
 refine ⟨gr, cr, by rw [Int.toNat_natCast] at h0; exact h0, h1, blk_frozen hgc _, hb1, hb2, fun u => ?_⟩
 obtain ⟨s1, s2⟩ := Kd.R_seg g3 (i : Int) (by omega) (by omega) (c := [v0, .int .i64 r.f1, .int .i64 r.f2]) (seg := [.int .i64 u]) (j := 1) rfl (fun j q hj => by have := hce j q hj; rwa [add_plain] at this) (by show 1 + 1 ≤ 3; omega) (x' := ⟨r.f0, u, r.f2⟩)
  (okp := fun k => oki k ∧ k ≠ gr) (k75_mkM W base _ ⟨r.f0, u, r.f2⟩ (Kd.R_mono gi (fun k hk => ⟨hk.1, fun he => hk.2 (by rw [he]; simp [Value.ownBlock])⟩))) (fun k hk => hk)
 rw [Int.toNat_natCast] at s1 s2
 have hM2 := k49_mkM (W.setCell ⟨gr, i * 3 + 1, none⟩ (.int .i64 u)) base oki (setR t i ⟨r.f0, u, r.f2⟩) (Kd.R_set g1 hgc (by decide) _ _) (Kd.R_set g2 hgc (by decide) _ _) (v3 := .slice (some ⟨gr, 0, none⟩) t.f3.length cr) s1 (Kd.R_set g4 hgc (by decide) _ _)
 have := Kd.H_back (Kd.H_grown hH s2 (fun k hk => by obtain rfl := Option.some.inj hk; exact g3.1 gr (by simp [Value.ownBlock]))) hM2 (fun k hk => hk)
 rwa [Int.toNat_natCast] at this
theorem S_refs {W : World} {base : Nat} {ok : Nat → Prop} {g n cap : Nat} {s : List S49} (h : Kd.S k49 72 W base ok (.slice (some ⟨g, 0, none⟩) n cap) s) (m : Nat) (t : S49) (hm : s[m]? = some t) :
  ∃ A c, W.cell? ⟨g, m * 5 + 3, none⟩ = some (.slice A t.f3.length c) := by
 have hml := (List.getElem?_eq_some_iff.1 hm).1
 have hn := (Kd.S_reads' h).1
 obtain ⟨oki, c, hcl, hM, hcc, hoki, hH⟩ := Kd.S_lend h z49 (m : Int) (by omega) (by omega)
 rw [Int.toNat_natCast, List.getD_eq_getElem?_getD, hm] at hM
 obtain ⟨v1, v2, v3, v4, rfl, g1, g2, g3, g4⟩ := k49_openM (x := t) hM
 obtain ⟨A, cr, rfl⟩ := Kd.R_slice g3
 have h0 := hcc 3 _ rfl
 exact ⟨A, cr, by rw [Int.toNat_natCast] at h0; exact h0⟩
theorem dropAt_use {s : List S49} {d : Data} {n : Nat} {r0 : List S49} {r1 : Data} {r2 : Int} (h : dropAt s d n = (r0, r1, r2)) (hu : s.any (useT n) = true) : r0 = [] ∧ r1 = [] ∧ r2 = 73 := by
 unfold dropAt at h
 rw [if_pos hu] at h
 cases h
 exact ⟨rfl, rfl, rfl⟩
theorem dropAt_free {s : List S49} {d : Data} {n : Nat} {r0 : List S49} {r1 : Data} {r2 : Int} (h : dropAt s d n = (r0, r1, r2)) (hu : ∀ t ∈ s, useT n t = false) : r0 = (s.map (shT n)).eraseIdx n ∧ r1 = d.eraseIdx n ∧ r2 = 0 := by
 unfold dropAt at h
 rw [if_neg (by rw [List.any_eq_true]; rintro ⟨t, ht, h2⟩; rw [hu t ht] at h2; cases h2)] at h
 cases h
 exact ⟨rfl, rfl, rfl⟩
theorem use_free {g : Int} {t : S49} (h : ∀ r ∈ t.f3, (r.f1 == g) = false) : useT g t = false := by
 unfold useT
 rw [List.any_eq_false]
 intro r hr; rw [h r hr]; decide
set_option maxHeartbeats 4000000 in
set_option maxRecDepth 100000 in
theorem drop_walk (k : Nat) (A0 : Option Addr) (c0 : Nat) (s : List S49) (A1 : Option Addr) (c1 : Nat) (d : Data) (nm : ByteArray) (r0 : List S49) (r1 : Data) (r2 : Int) (w : World)
  (hS : Kd.C k49 w A0 s.length s) (hc0 : s.length ≤ c0) (hD : Kd.C (Kd.slice 89 (Kd.slice 87 k64)) w A1 d.length d) (hc1 : d.length ≤ c1)
  (hwd : wfData d) (hsd : dataP k s d = some true → smallData d ∧ smallSch s ∧ ∀ t ∈ s, ∀ r ∈ t.f3, r.f1 < s.length) (hL : LaidL w) (h : dropP k s d nm = some (r0, r1, r2)) :
  Calls Tryz.prog 9 #[.slice A0 s.length c0, .slice A1 d.length c1, .string nm] w fun e w' => ∃ (v0 v1 : Value) (N : Nat), e = .returned (.tuple #[v0, v1, .int .i64 r2]) ∧ Kd.S k49 72 w' w.heap.size (fun q => q < N) v0 r0 ∧ Kd.S (Kd.slice 89 (Kd.slice 87 k64)) 41 w' w.heap.size (fun q => N ≤ q) v1 r1 ∧ Below w.heap.size w w' := by
 have HS := Aside0.mk hS
 have HD := Aside0.mk hD
 have HSD := Aside0.mk hsd
 unfold dropP at h
 obtain ⟨v, hv, hz⟩ := Option.bind_eq_some_iff.mp h
 have HV := Aside0.mk (validData_walk k A0 c0 s A1 c1 d v w hS hc0 hD hc1 hwd hL hv)
 have HF : Aside0 (∀ W, Below w.heap.size w W → Calls Tryz.prog 33 #[.slice A0 s.length c0, .string nm] W fun e w' => e = .returned (.int .i64 (findP nm 0 s)) ∧ Below W.heap.size W w') := ⟨fun W hW => scheme_find.calls A0 c0 s nm _ W (Kd.C_below hS hW) hc0 rfl⟩
 have HH := Aside0.mk hz
 have HVD := Aside0.mk hv
 clear hS hD hwd hsd hL h hv hz
 go_enter Tryz.func9, Tryz.ntmps9
 cases v with
 | false =>
  have h := HH.out
  rw [if_neg (by decide)] at h
  cases h
  go_wp2_with (go_at_call 29; refine HV.out.mono ?_; rintro e w1 ⟨rfl, hb1⟩)
  go_ret3
  exact ⟨_, _, 0, rfl, Kd.S_nil _ _ _ _ _, Kd.S_nil _ _ _ _ _, hb1⟩
 | true =>
  have h := HH.out
  rw [if_pos rfl] at h
  have HLEN := Aside0.mk (dataP_len HVD.out)
  have HSD2 := Aside0.mk (HSD.out HVD.out)
  have hrange := findP_range nm s 0
  generalize findP nm 0 s = n at *
  by_cases q : n < 0
  ·rw [if_pos q] at h
   cases h
   have d1 : decide (n < 0) = true := decide_eq_true q
   clear q hrange HH
   go_wp2_with (first | (go_at_call 29; refine HV.out.mono ?_; rintro e w1 ⟨rfl, hb1⟩) | (go_at_call 33; refine (HF.out _ hb1).mono ?_; rintro e w2 ⟨rfl, hb2⟩))
   go_ret3
   exact ⟨_, _, 0, rfl, Kd.S_nil _ _ _ _ _, Kd.S_nil _ _ _ _ _, below_step hb1 hb2⟩
  rw [if_neg q] at h
  have d1 : decide (n < 0) = false := decide_eq_false q
  obtain ⟨gone, rfl⟩ : ∃ m : Nat, n = (m : Int) := ⟨n.toNat, by omega⟩
  rw [Int.toNat_natCast] at h
  have hns : gone < s.length := by omega
  have hnd : gone < d.length := by have := HLEN.out; omega
  have HP := Aside0.mk (Option.some.inj h)
  clear q hrange HH h
  have HCS : Aside0 (∀ W, Below w.heap.size w W → Calls Tryz.prog 34 #[.slice A0 s.length c0] W fun e w' => ∃ v0_ : Value, e = .returned (v0_) ∧ Kd.S k49 72 w' W.heap.size (fun _ => True) v0_ s ∧ Below W.heap.size W w') := ⟨fun W hW => copied_walk A0 c0 s W (Kd.C_below HS.out hW) hc0 HSD2.out.2.1⟩
  have HDP : Aside0 (0 < s.length) := ⟨by omega⟩
  have hslen : s.length ≤ 2000000 := HSD2.out.2.1.1
  go_wp2_with (first | (go_at_call 29; refine HV.out.mono ?_; rintro e w1 ⟨rfl, hb1⟩) | (go_at_call 33; refine (HF.out _ hb1).mono ?_; rintro e w2 ⟨rfl, hb2⟩) | (go_at_call 34; refine (HCS.out _ (below_step hb1 hb2)).mono ?_; rintro e W1 ⟨v, rfl, ho, hb3⟩; obtain ⟨g, cap, ev, hg1, hg2, gcells, hgc⟩ := Kd.S_form ho HDP.out; subst ev))
  have HB := Aside0.mk (below_step (below_step hb1 hb2) hb3)
  have HW2 : Aside0 (w.heap.size ≤ w2.heap.size) := ⟨(below_step hb1 hb2).size⟩
  have HO : Aside0 (Kd.S k49 72 W1 w.heap.size (fun _ => True) (.slice (some ⟨g, 0, none⟩) s.length cap) (curS gone s 0 0)) := ⟨by rw [curS_zero]; exact Kd.S_lower ho HW2.out⟩
  clear hb1 hb2 hb3 ho hg1 hg2 hgc HV HF HCS d1
  go_loopg [27] s.length (fun gk v27 wx => ∃ (m : Nat), m + gk = s.length ∧ v27 = .int .i64 m ∧ Aside0 (Kd.S k49 72 wx w.heap.size (fun _ => True) (.slice (some ⟨g, 0, none⟩) s.length cap) (curS gone s m 0)) ∧ Aside0 (Below w.heap.size w wx) ∧ Aside0 (∀ t ∈ s.take m, useT gone t = false))
  case atStart => exact ⟨0, by omega, rfl, HO, HB, ⟨fun t ht => by simp at ht⟩⟩
  case round =>
   clear HO HB
   obtain ⟨m, hm, rfl, HO, HB, HU⟩ := hrel
   cases gk with
   | succ gk =>
    have hlt : m < s.length := by omega
    have hmi : (m : Int) < (s.length : Int) := by omega
    have hm0 : (0 : Int) ≤ (m : Int) := by omega
    obtain ⟨Ar, cr, hx3⟩ := S_refs HO.out m (shP gone 0 s[m]) (curS_at _ _ _ _ hlt)
    rw [shP_zero] at hx3
    have hfl := (HSD2.out.2.1.2 s[m] (List.getElem_mem hlt)).2.2.1.1
    have HOi : Aside0 (Kd.S k49 72 wr w.heap.size (fun _ => True) (.slice (some ⟨g, 0, none⟩) s.length cap) (curS gone s m 0)) := HO
    have HR1 := Aside0.mk (HSD2.out.2.2 s[m] (List.getElem_mem hlt))
    go_wp2
    clear hx3 HO
    go_loopg [36] s[m].f3.length (fun gi v36 wx => ∃ (i : Nat), i + gi = s[m].f3.length ∧ v36 = .int .i64 i ∧ Aside0 (Kd.S k49 72 wx w.heap.size (fun _ => True) (.slice (some ⟨g, 0, none⟩) s.length cap) (curS gone s m i)) ∧ Aside0 (Below w.heap.size w wx) ∧ Aside0 (∀ r ∈ s[m].f3.take i, (r.f1 == (gone : Int)) = false))
    case atStart => exact ⟨0, by omega, rfl, HOi, HB, ⟨fun t ht => by simp at ht⟩⟩
    case round =>
     clear HOi HB
     obtain ⟨i, hi, rfl, HO, HB, HV⟩ := hrel
     cases gk with
     | zero =>
      have hii : ¬ (i : Int) < (s[m].f3.length : Int) := by omega
      have HO2 : Aside0 (Kd.S k49 72 wr w.heap.size (fun _ => True) (.slice (some ⟨g, 0, none⟩) s.length cap) (curS gone s (m + 1) 0)) := ⟨by rw [← curS_next _ _ _ i hlt (by omega)]; exact HO.out⟩
      have HU2 : Aside0 (∀ t ∈ s.take (m + 1), useT gone t = false) := ⟨fun t ht => by
       rw [take_snoc hlt] at ht
       rcases List.mem_append.1 ht with ht | ht
       ·exact HU.out t ht
       ·rw [List.mem_singleton.1 ht]
        exact use_free (fun r hr => HV.out r (by rw [List.take_of_length_le (by omega)]; exact hr))⟩
      clear HO HV
      go_wp2
      go_roundg gk
      case measure => omega
      case rel => exact ⟨m + 1, by omega, by first | rfl | (simp; done) | (simp; unfold wrap64; omega), HO2, HB, HU2⟩
     | succ gi =>
      have hil : i < s[m].f3.length := by omega
      have hii : (i : Int) < (s[m].f3.length : Int) := by omega
      have hi0 : (0 : Int) ≤ (i : Int) := by omega
      obtain ⟨gr, cr2, hx3, hy, hyf, hgr1, hgr2, hst⟩ := S_ref HO.out m i (shP gone i s[m]) (curS_at _ _ _ _ hlt) s[m].f3[i] (shP_at _ _ _ hil)
      have hfl2 : (shP gone i s[m]).f3.length = s[m].f3.length := by simp [shP]
      rw [hfl2] at hx3
      have HST := Aside0.mk hst
      have HCS := curS_step gone s m i hlt hil
      have HCE := curS_same gone s m i hlt hil
      have HUA := use_at (g := (gone : Int)) hlt hil
      have HTK := take_snoc hil
      have hRlt := HR1.out s[m].f3[i] (List.getElem_mem hil)
      have HHCS := Aside0.mk HCS
      have HHCE := Aside0.mk HCE
      have HHUA := Aside0.mk HUA
      have HHTK := Aside0.mk HTK
      clear hst HCS HCE HUA HTK hfl2
      generalize s[m].f3[i] = r at *
      by_cases q1 : r.f1 = (gone : Int)
      ·obtain ⟨e0, e1, e2⟩ := dropAt_use HP.out (HHUA.out q1)
       subst e0 e1 e2
       have d1 : (r.f1 == (gone : Int)) = true := beq_iff_eq.mpr q1
       clear q1
       go_wp2
       go_ret3
       exact ⟨_, _, 0, rfl, Kd.S_nil _ _ _ _ _, Kd.S_nil _ _ _ _ _, HB.out⟩
      ·have d1 : (r.f1 == (gone : Int)) = false := beq_eq_false_iff_ne.mpr q1
       have HV2 : Aside0 (∀ r ∈ s[m].f3.take (i + 1), (r.f1 == (gone : Int)) = false) := ⟨fun x hx => by
        rw [HHTK.out] at hx
        rcases List.mem_append.1 hx with hx | hx
        ·exact HV.out x hx
        ·rw [List.mem_singleton.1 hx]; exact d1⟩
       by_cases q2 : (gone : Int) < r.f1
       ·have d2 : decide ((gone : Int) < r.f1) = true := decide_eq_true q2
        have hsh : shR gone r = ⟨r.f0, r.f1 - 1, r.f2⟩ := by unfold shR; rw [if_pos q2]
        have HO2 : Aside0 (Kd.S k49 72 (wr.setCell ⟨gr, i * 3 + 1, none⟩ (.int .i64 (r.f1 - 1))) w.heap.size (fun _ => True) (.slice (some ⟨g, 0, none⟩) s.length cap) (curS gone s m (i + 1))) := ⟨by
         have := HST.out (r.f1 - 1)
         rw [← HHCS.out, hsh]
         exact this⟩
        have HB2 : Aside0 (Below w.heap.size w (wr.setCell ⟨gr, i * 3 + 1, none⟩ (.int .i64 (r.f1 - 1)))) := ⟨below_set HB.out hgr1⟩
        have hr1 : r.f1 ≤ 2000000 := by omega
        have hr0 : 1 ≤ r.f1 := by omega
        clear q1 hsh HHCS HHCE HHUA HHTK HST HV HO HB
        go_wp2
        go_roundg gi
        case measure => omega
        case rel => exact ⟨i + 1, by omega, by first | rfl | (simp; done) | (simp; unfold wrap64; omega), HO2, HB2, HV2⟩
       ·have d2 : decide ((gone : Int) < r.f1) = false := decide_eq_false q2
        have HO2 : Aside0 (Kd.S k49 72 wr w.heap.size (fun _ => True) (.slice (some ⟨g, 0, none⟩) s.length cap) (curS gone s m (i + 1))) := ⟨by
         rw [HHCE.out (by unfold shR; rw [if_neg q2])]
         exact HO.out⟩
        clear q1 HHCS HHCE HHUA HHTK HST HV HO
        go_wp2
        go_roundg gi
        case measure => omega
        case rel => exact ⟨i + 1, by omega, by first | rfl | (simp; done) | (simp; unfold wrap64; omega), HO2, HB, HV2⟩
   | zero =>
    have hmi : ¬ (m : Int) < (s.length : Int) := by omega
    have hus : ∀ t ∈ s, useT gone t = false := fun t ht => HU.out t (by rw [List.take_of_length_le (by omega)]; exact ht)
    obtain ⟨e0, e1, e2⟩ := dropAt_free HP.out hus
    subst e0 e1 e2
    have ho := HO.out
    rw [curS_all _ _ _ _ (by omega)] at ho
    have HN1 := Aside0.mk (delTab_walk g s.length cap gone w.heap.size (fun _ => True) _ wr ho hns)
    have HCD : Aside0 (∀ W, Below w.heap.size w W → Calls Tryz.prog 37 #[.slice A1 d.length c1] W fun e w' => ∃ v0_ : Value, e = .returned (v0_) ∧ Kd.S (Kd.slice 89 (Kd.slice 87 k64)) 41 w' W.heap.size (fun _ => True) v0_ d ∧ Below W.heap.size W w') := ⟨fun W hW => copiedData_walk A1 c1 d W (Kd.C_below HD.out hW) hc1 HSD2.out.1⟩
    have HDD : Aside0 (0 < d.length) := ⟨by omega⟩
    have hgl : Aside0 (w.heap.size ≤ g ∧ g < wr.heap.size) := ⟨Kd.S_base ho g (by simp [Value.ownBlock]), Kd.S_lt ho g (by simp [Value.ownBlock])⟩
    clear hus ho HO HU HP HVD HSD HSD2
    go_wp2_with (first
     | (go_at_call 35; refine HN1.out.mono ?_; rintro e w3 ⟨rfl, hs3, hg3⟩; have HB3 := Aside0.mk (HB.out.grown hg3 HB.out.size (fun j hj => by obtain rfl := Option.some.inj hj; exact hgl.out.1)); have HS3 := Aside0.mk hs3; clear hs3)
     | (go_at_call 37; refine (HCD.out _ HB3.out).mono ?_; rintro e w4 ⟨v4, rfl, hv4, hb4⟩; obtain ⟨gd, capd, ev, hgd1, hgd2, gdc, hgdc⟩ := Kd.S_form hv4 HDD.out; subst ev; have HN2 := Aside0.mk (delDat_walk gd d.length capd gone w3.heap.size (fun _ => True) d w4 hv4 hnd); have HS4 := Aside0.mk (Kd.S_below (Kd.S_bound HS3.out) hb4); have HB4 := Aside0.mk (below_step HB3.out hb4); have HL4 := Aside0.mk hgd1; have HL43 := Aside0.mk hb4.size; clear hb4 hgd2 hgdc hgd1)
     | (go_at_call 36; refine HN2.out.mono ?_; rintro e w5 ⟨rfl, hs5, hg5⟩; have HS5 := Aside0.mk hs5; have HG5 := Aside0.mk hg5; clear hs5 hg5))
    go_ret3
    refine ⟨_, _, w3.heap.size, rfl, Kd.S_grown (Kd.S_mono HS4.out (fun k hk => hk.2.2.1)) HG5.out (fun k hk he => ?_), Kd.S_lower (Kd.S_mono (Kd.S_bound HS5.out) (fun k hk => hk.2.1)) HB3.out.size, HB4.out.grown HG5.out HB4.out.size (fun k hk => ?_)⟩
    ·have h1 : k < w3.heap.size := hk
     have h2 := HL4.out
     injection he with he
     omega
    ·obtain rfl := Option.some.inj hk
     exact Nat.le_trans HB3.out.size HL4.out
theorem tabB_more {b : List S49} {t : S49} (h : tabB b t = true) : t.f2.length ≤ 4 ∧ t.f3.length ≤ 4 ∧ risB t.f4 (t.f1.length : Int) = true := by
 unfold tabB at h
 split at h
 ·split at h
  ·cases h
  split at h
  ·cases h
  split at h
  ·cases h
  simp only [Bool.and_eq_true] at h
  exact ⟨by omega, by omega, h.1⟩
 ·cases h
theorem ref_early {s : List S49} {n : Nat} (hv : validB s = true) (hn : n < s.length) {r : S75} (hr : r ∈ s[n].f3) : 0 ≤ r.f1 ∧ r.f1 < (n : Int) ∧ r.f0.length ≤ 8 := by
 have hat := (validB_at hv).2
 have h1 := hat n hn
 rw [rdT49 hn] at h1
 have hb := (tabB_facts h1).2.2 r hr
 have hlen : (s.take n).length = n := by rw [List.length_take]; omega
 unfold refB at hb
 rw [hlen] at hb
 split at hb
 ·cases hb
 split at hb
 ·cases hb
 split at hb
 ·cases hb
 split at hb
 ·cases hb
 split at hb
 ·rename_i q0 q1 q2 q3 q4
  refine ⟨by omega, by omega, ?_⟩
  obtain ⟨j, hj⟩ : ∃ j : Nat, r.f1 = (j : Int) := ⟨r.f1.toNat, by omega⟩
  rw [hj] at q1 q3 q4
  have hjn : j < n := by omega
  have e : rd_T49 (s.take n) (j : Int) = s[j] := by
   unfold rd_T49
   rw [Int.toNat_natCast, List.getD_eq_getElem?_getD, List.getElem?_take, if_pos hjn, List.getElem?_eq_getElem (by omega)]
   rfl
  rw [e] at q3 q4
  have h2 := hat j (by omega)
  rw [rdT49 (by omega : j < s.length)] at h2
  obtain ⟨k1, k2, _⟩ := tabB_facts h2
  have hm : rd_L6 s[j].f2 r.f2 ∈ s[j].f2 := by
   unfold rd_L6
   have hl : r.f2.toNat < s[j].f2.length := by omega
   rw [List.getD_eq_getElem?_getD, List.getElem?_eq_getElem hl]
   exact List.getElem_mem hl
  have := risB_len (k2 _ hm) (by omega)
  omega
 ·cases hb
theorem smallS_of {s : List S49} (hv : validB s = true) : smallSch s := by
 obtain ⟨h16, hat⟩ := validB_at hv
 refine ⟨by omega, fun t ht => ?_⟩
 obtain ⟨n, hn, rfl⟩ := List.getElem_of_mem ht
 have h1 := hat n hn
 rw [rdT49 hn] at h1
 obtain ⟨a1, a2, a3⟩ := tabB_facts h1
 obtain ⟨b1, b2, b3⟩ := tabB_more h1
 refine ⟨by omega, ⟨by omega, fun key hk => ?_⟩, ⟨by omega, fun r hr => ?_⟩, ?_⟩
 ·have := risB_len (a2 key hk) (by omega); omega
 ·have := (ref_early hv hn hr).2.2; omega
 ·have := risB_len b3 (by omega); omega
theorem ref_lt {s : List S49} (hv : validB s = true) : ∀ t ∈ s, ∀ r ∈ t.f3, r.f1 < (s.length : Int) := fun t ht r hr => by
 obtain ⟨n, hn, rfl⟩ := List.getElem_of_mem ht
 have := (ref_early hv hn hr).2.1; omega
def dropB (s : List S49) (d : Data) (nm : ByteArray) : List S49 × Data × Int :=
 if dataB s d = true then if (findB s nm).2 = true then dropAt s d (findB s nm).1.toNat else ([], [], 71) else ([], [], 1)
theorem drop_is (s : List S49) (hw : ∀ t ∈ s, wfT t) (d : Data) (nm : ByteArray) : Ev (fun k => dropP k s d nm) (dropB s d nm) := by
 obtain ⟨K, hK⟩ := data_is s hw d
 refine ⟨K, fun k hk => ?_⟩
 have h := hK k hk
 simp only at h
 show dropP k s d nm = _
 unfold dropP dropB
 rw [h, Option.bind_some]
 cases hd : dataB s d with
 | false => rfl
 | true =>
  obtain ⟨hv, hl, hf, _⟩ := dataB_facts hd
  rw [if_pos rfl, if_pos rfl]
  obtain ⟨f1, f2⟩ := find_pos hv nm
  by_cases q : 0 ≤ findP nm 0 s
  ·rw [if_neg (by omega), f1 q, if_pos rfl]
  ·rw [if_pos (by omega), f2 q]; rfl
def idxP {α : Type} (p : α → Bool) : Nat → List α → Int
 | _, [] => -1
 | i, x :: r => if p x = true then (i : Int) else idxP p (i + 1) r
theorem idxP_any {α : Type} (p : α → Bool) : ∀ (l : List α) (i : Nat), (l.any p = true → 0 ≤ idxP p i l) ∧ (l.any p = false → ¬ 0 ≤ idxP p i l)
 | [], i => ⟨fun h => by simp at h, fun _ => by simp [idxP]⟩
 | x :: r, i => by
  rw [idxP, List.any_cons]
  cases hx : p x with
  | true => exact ⟨fun _ => by simp, fun h => by simp at h⟩
  | false => rw [Bool.false_or, if_neg (by decide)]; exact idxP_any p r (i + 1)
set_option maxRecDepth 100000 in
theorem idxD_walk (A : Option Addr) (c : Nat) (l : List S109) (p : S109 → Bool) (w : World) (hC : Kd.C k109 w A l.length l) (hc : l.length ≤ c)
  (hF : ∀ x ∈ l, ∀ (W : World), Below w.heap.size w W → Calls Tryz.prog 54 #[.agg #[.string x.f0, .int .u8 x.f1, .bool x.f2, .int .i64 x.f3, .int .i64 x.f4, .bool x.f5]] W fun e w' => e = .returned (.bool (p x)) ∧ Below W.heap.size W w') :
  Calls Tryz.prog 110 #[.slice A l.length c, .func (.func 54) #[] #[]] w fun e w' => e = .returned (.int .i64 (idxP p 0 l)) ∧ Below w.heap.size w w' := by
 have HC := Aside0.mk hC
 have HF := Aside0.mk hF
 have HB0 := Aside0.mk (Below.refl w.heap.size w)
 clear hC hF
 go_enter Tryz.func110, Tryz.ntmps110
 go_wp2
 go_loopg [8] l.length (fun gk v8 wx => ∃ (i : Nat), i + gk = l.length ∧ v8 = .int .i64 i ∧ Aside0 (Below w.heap.size w wx) ∧ Aside0 (idxP p 0 l = idxP p i (l.drop i)))
 case atStart => exact ⟨0, by omega, rfl, HB0, ⟨by simp⟩⟩
 case round =>
  clear HB0
  obtain ⟨i, hi, rfl, HW, HP⟩ := hrel
  cases gk with
  | zero =>
   have e : l.drop i = [] := List.drop_eq_nil_of_le (by omega)
   have hp := HP.out
   rw [e] at hp
   have hii : ¬ (i : Int) < (l.length : Int) := by omega
   go_wp2
   go_ret
   exact ⟨by first | rfl | (rw [hp]; rfl), HW.out⟩
  | succ gk =>
   have hlt : i < l.length := by omega
   have hii : (i : Int) < (l.length : Int) := by omega
   have hi0 : (0 : Int) ≤ (i : Int) := by omega
   have hdr : l.drop i = l[i] :: l.drop (i + 1) := List.drop_eq_getElem_cons hlt
   have hrd : rd_T109 l (i : Int) = l[i] := by unfold rd_T109; simp [List.getD, hlt]
   obtain ⟨ad2, hA, hx0, hx1, hx2, hx3, hx4, hx5⟩ := at_T109 HC.out (i : Int) hi0 hii
   cases hA
   rw [hrd] at hx0 hx1 hx2 hx3 hx4 hx5
   rw [Int.toNat_natCast] at hx0 hx1 hx2 hx3 hx4 hx5
   have hy0 := (HW.out.cell (World.block_lt_of_cell? w _ hx0)).trans hx0
   have hy1 := (HW.out.cell (World.block_lt_of_cell? w _ hx1)).trans hx1
   have hy2 := (HW.out.cell (World.block_lt_of_cell? w _ hx2)).trans hx2
   have hy3 := (HW.out.cell (World.block_lt_of_cell? w _ hx3)).trans hx3
   have hy4 := (HW.out.cell (World.block_lt_of_cell? w _ hx4)).trans hx4
   have hy5 := (HW.out.cell (World.block_lt_of_cell? w _ hx5)).trans hx5
   have HM := List.getElem_mem hlt
   have hp := HP.out
   rw [hdr, idxP] at hp
   generalize l[i] = x at *
   have HN := Aside0.mk (HF.out x HM wr HW.out)
   clear hx0 hx1 hx2 hx3 hx4 hx5  HM
   cases hh : p x with
   | true =>
    rw [hh] at HN
    rw [if_pos hh] at hp
    clear hh
    go_wp2_with (go_at_call 54; refine HN.out.mono ?_; rintro e w1 ⟨rfl, hb1⟩)
    go_ret
    exact ⟨by first | rfl | (rw [hp]; rfl), below_step HW.out hb1⟩
   | false =>
    rw [hh] at HN
    rw [if_neg (by rw [hh]; decide)] at hp
    clear hh
    go_wp2_with (go_at_call 54; refine HN.out.mono ?_; rintro e w1 ⟨rfl, hb1⟩)
    go_roundg gk
    case measure => omega
    case rel => exact ⟨i + 1, by omega, by first | rfl | (simp; done) | (have := HC.out.2.1; simp; unfold wrap64; omega), ⟨below_step HW.out hb1⟩, ⟨hp⟩⟩
theorem conD_walk (A : Option Addr) (c : Nat) (l : List S109) (p : S109 → Bool) (w : World) (hC : Kd.C k109 w A l.length l) (hc : l.length ≤ c)
  (hF : ∀ x ∈ l, ∀ (W : World), Below w.heap.size w W → Calls Tryz.prog 54 #[.agg #[.string x.f0, .int .u8 x.f1, .bool x.f2, .int .i64 x.f3, .int .i64 x.f4, .bool x.f5]] W fun e w' => e = .returned (.bool (p x)) ∧ Below W.heap.size W w') :
  Calls Tryz.prog 53 #[.slice A l.length c, .func (.func 54) #[] #[]] w fun e w' => e = .returned (.bool (l.any p)) ∧ Below w.heap.size w w' := by
 have HI := Aside0.mk (idxD_walk A c l p w hC hc hF)
 have HA := Aside0.mk (idxP_any p l 0)
 clear hC hF
 go_enter Tryz.func53, Tryz.ntmps53
 cases hq : l.any p with
 | true =>
  have d1 : decide (0 ≤ idxP p 0 l) = true := decide_eq_true (HA.out.1 hq)
  clear hq
  go_wp2_with (go_at_call 110; refine HI.out.mono ?_; rintro e w1 ⟨rfl, hb1⟩)
  go_ret
  exact ⟨rfl, hb1⟩
 | false =>
  have d1 : decide (0 ≤ idxP p 0 l) = false := decide_eq_false (HA.out.2 hq)
  clear hq
  go_wp2_with (go_at_call 110; refine HI.out.mono ?_; rintro e w1 ⟨rfl, hb1⟩)
  go_ret
  exact ⟨rfl, hb1⟩
set_option maxRecDepth 100000 in
theorem idxN_walk (A : Option Addr) (c : Nat) (l : List ByteArray) (p : ByteArray → Bool) (w : World) (hC : Kd.C Kd.string w A l.length l) (hc : l.length ≤ c)
  (hF : ∀ x ∈ l, ∀ (W : World), Below w.heap.size w W → Calls Tryz.prog 113 #[.string x] W fun e w' => e = .returned (.bool (p x)) ∧ Below W.heap.size W w') :
  Calls Tryz.prog 151 #[.slice A l.length c, .func (.func 113) #[] #[]] w fun e w' => e = .returned (.int .i64 (idxP p 0 l)) ∧ Below w.heap.size w w' := by
 have HC := Aside0.mk hC
 have HF := Aside0.mk hF
 have HB0 := Aside0.mk (Below.refl w.heap.size w)
 clear hC hF
 go_enter Tryz.func151, Tryz.ntmps151
 go_wp2
 go_loopg [8] l.length (fun gk v8 wx => ∃ (i : Nat), i + gk = l.length ∧ v8 = .int .i64 i ∧ Aside0 (Below w.heap.size w wx) ∧ Aside0 (idxP p 0 l = idxP p i (l.drop i)))
 case atStart => exact ⟨0, by omega, rfl, HB0, ⟨by simp⟩⟩
 case round =>
  clear HB0
  obtain ⟨i, hi, rfl, HW, HP⟩ := hrel
  cases gk with
  | zero =>
   have e : l.drop i = [] := List.drop_eq_nil_of_le (by omega)
   have hp := HP.out
   rw [e] at hp
   have hii : ¬ (i : Int) < (l.length : Int) := by omega
   go_wp2
   go_ret
   exact ⟨by first | rfl | (rw [hp]; rfl), HW.out⟩
  | succ gk =>
   have hlt : i < l.length := by omega
   have hii : (i : Int) < (l.length : Int) := by omega
   have hi0 : (0 : Int) ≤ (i : Int) := by omega
   have hdr : l.drop i = l[i] :: l.drop (i + 1) := List.drop_eq_getElem_cons hlt
   have hrd : rdOf ByteArray.empty l (i : Int) = l[i] := by unfold rdOf; simp [List.getD, hlt]
   obtain ⟨ad2, hA, hx0⟩ := Kd.at_string HC.out (i : Int) hi0 hii
   cases hA
   rw [hrd] at hx0
   rw [Int.toNat_natCast] at hx0
   have hy0 := (HW.out.cell (World.block_lt_of_cell? w _ hx0)).trans hx0
   have HM := List.getElem_mem hlt
   have hp := HP.out
   rw [hdr, idxP] at hp
   generalize l[i] = x at *
   have HN := Aside0.mk (HF.out x HM wr HW.out)
   clear hx0  HM
   cases hh : p x with
   | true =>
    rw [hh] at HN
    rw [if_pos hh] at hp
    clear hh
    go_wp2_with (go_at_call 113; refine HN.out.mono ?_; rintro e w1 ⟨rfl, hb1⟩)
    go_ret
    exact ⟨by first | rfl | (rw [hp]; rfl), below_step HW.out hb1⟩
   | false =>
    rw [hh] at HN
    rw [if_neg (by rw [hh]; decide)] at hp
    clear hh
    go_wp2_with (go_at_call 113; refine HN.out.mono ?_; rintro e w1 ⟨rfl, hb1⟩)
    go_roundg gk
    case measure => omega
    case rel => exact ⟨i + 1, by omega, by first | rfl | (simp; done) | (have := HC.out.2.1; simp; unfold wrap64; omega), ⟨below_step HW.out hb1⟩, ⟨hp⟩⟩
theorem conN_walk (A : Option Addr) (c : Nat) (l : List ByteArray) (p : ByteArray → Bool) (w : World) (hC : Kd.C Kd.string w A l.length l) (hc : l.length ≤ c)
  (hF : ∀ x ∈ l, ∀ (W : World), Below w.heap.size w W → Calls Tryz.prog 113 #[.string x] W fun e w' => e = .returned (.bool (p x)) ∧ Below W.heap.size W w') :
  Calls Tryz.prog 112 #[.slice A l.length c, .func (.func 113) #[] #[]] w fun e w' => e = .returned (.bool (l.any p)) ∧ Below w.heap.size w w' := by
 have HI := Aside0.mk (idxN_walk A c l p w hC hc hF)
 have HA := Aside0.mk (idxP_any p l 0)
 clear hC hF
 go_enter Tryz.func112, Tryz.ntmps112
 cases hq : l.any p with
 | true =>
  have d1 : decide (0 ≤ idxP p 0 l) = true := decide_eq_true (HA.out.1 hq)
  clear hq
  go_wp2_with (go_at_call 151; refine HI.out.mono ?_; rintro e w1 ⟨rfl, hb1⟩)
  go_ret
  exact ⟨rfl, hb1⟩
 | false =>
  have d1 : decide (0 ≤ idxP p 0 l) = false := decide_eq_false (HA.out.2 hq)
  clear hq
  go_wp2_with (go_at_call 151; refine HI.out.mono ?_; rintro e w1 ⟨rfl, hb1⟩)
  go_ret
  exact ⟨rfl, hb1⟩
set_option maxRecDepth 100000 in
theorem idxL_walk (A : Option Addr) (c : Nat) (l : List (List ByteArray)) (p : (List ByteArray) → Bool) (w : World) (hC : Kd.C (Kd.slice 9 Kd.string) w A l.length l) (hc : l.length ≤ c)
  (hF : ∀ x ∈ l, ∀ (A : Option Addr) (c : Nat) (W : World), Below w.heap.size w W → Kd.C Kd.string W A x.length x → x.length ≤ c → Calls Tryz.prog 57 #[.slice A x.length c] W fun e w' => e = .returned (.bool (p x)) ∧ Below W.heap.size W w') :
  Calls Tryz.prog 111 #[.slice A l.length c, .func (.func 57) #[] #[]] w fun e w' => e = .returned (.int .i64 (idxP p 0 l)) ∧ Below w.heap.size w w' := by
 have HC := Aside0.mk hC
 have HF := Aside0.mk hF
 have HB0 := Aside0.mk (Below.refl w.heap.size w)
 clear hC hF
 go_enter Tryz.func111, Tryz.ntmps111
 go_wp2
 go_loopg [8] l.length (fun gk v8 wx => ∃ (i : Nat), i + gk = l.length ∧ v8 = .int .i64 i ∧ Aside0 (Below w.heap.size w wx) ∧ Aside0 (idxP p 0 l = idxP p i (l.drop i)))
 case atStart => exact ⟨0, by omega, rfl, HB0, ⟨by simp⟩⟩
 case round =>
  clear HB0
  obtain ⟨i, hi, rfl, HW, HP⟩ := hrel
  cases gk with
  | zero =>
   have e : l.drop i = [] := List.drop_eq_nil_of_le (by omega)
   have hp := HP.out
   rw [e] at hp
   have hii : ¬ (i : Int) < (l.length : Int) := by omega
   go_wp2
   go_ret
   exact ⟨by first | rfl | (rw [hp]; rfl), HW.out⟩
  | succ gk =>
   have hlt : i < l.length := by omega
   have hii : (i : Int) < (l.length : Int) := by omega
   have hi0 : (0 : Int) ≤ (i : Int) := by omega
   have hdr : l.drop i = l[i] :: l.drop (i + 1) := List.drop_eq_getElem_cons hlt
   have hrd : rd_Ls l (i : Int) = l[i] := by unfold rd_Ls; simp [List.getD, hlt]
   obtain ⟨ad2, A0, c0, hA, hx0, hl0, hC0⟩ := at_Ls HC.out (i : Int) hi0 hii
   cases hA
   rw [hrd] at hx0 hl0 hC0
   rw [Int.toNat_natCast] at hx0
   have hy0 := (HW.out.cell (World.block_lt_of_cell? w _ hx0)).trans hx0
   have HM := List.getElem_mem hlt
   have hp := HP.out
   rw [hdr, idxP] at hp
   generalize l[i] = x at *
   have HN := Aside0.mk (HF.out x HM A0 c0 wr HW.out (Kd.C_below hC0 HW.out) hl0)
   clear hx0 hC0 HM
   cases hh : p x with
   | true =>
    rw [hh] at HN
    rw [if_pos hh] at hp
    clear hh
    go_wp2_with (go_at_call 57; refine HN.out.mono ?_; rintro e w1 ⟨rfl, hb1⟩)
    go_ret
    exact ⟨by first | rfl | (rw [hp]; rfl), below_step HW.out hb1⟩
   | false =>
    rw [hh] at HN
    rw [if_neg (by rw [hh]; decide)] at hp
    clear hh
    go_wp2_with (go_at_call 57; refine HN.out.mono ?_; rintro e w1 ⟨rfl, hb1⟩)
    go_roundg gk
    case measure => omega
    case rel => exact ⟨i + 1, by omega, by first | rfl | (simp; done) | (have := HC.out.2.1; simp; unfold wrap64; omega), ⟨below_step HW.out hb1⟩, ⟨hp⟩⟩
theorem conL_walk (A : Option Addr) (c : Nat) (l : List (List ByteArray)) (p : (List ByteArray) → Bool) (w : World) (hC : Kd.C (Kd.slice 9 Kd.string) w A l.length l) (hc : l.length ≤ c)
  (hF : ∀ x ∈ l, ∀ (A : Option Addr) (c : Nat) (W : World), Below w.heap.size w W → Kd.C Kd.string W A x.length x → x.length ≤ c → Calls Tryz.prog 57 #[.slice A x.length c] W fun e w' => e = .returned (.bool (p x)) ∧ Below W.heap.size W w') :
  Calls Tryz.prog 56 #[.slice A l.length c, .func (.func 57) #[] #[]] w fun e w' => e = .returned (.bool (l.any p)) ∧ Below w.heap.size w w' := by
 have HI := Aside0.mk (idxL_walk A c l p w hC hc hF)
 have HA := Aside0.mk (idxP_any p l 0)
 clear hC hF
 go_enter Tryz.func56, Tryz.ntmps56
 cases hq : l.any p with
 | true =>
  have d1 : decide (0 ≤ idxP p 0 l) = true := decide_eq_true (HA.out.1 hq)
  clear hq
  go_wp2_with (go_at_call 111; refine HI.out.mono ?_; rintro e w1 ⟨rfl, hb1⟩)
  go_ret
  exact ⟨rfl, hb1⟩
 | false =>
  have d1 : decide (0 ≤ idxP p 0 l) = false := decide_eq_false (HA.out.2 hq)
  clear hq
  go_wp2_with (go_at_call 111; refine HI.out.mono ?_; rintro e w1 ⟨rfl, hb1⟩)
  go_ret
  exact ⟨rfl, hb1⟩
set_option maxRecDepth 100000 in
theorem idxR_walk (A : Option Addr) (c : Nat) (l : List S105) (p : S105 → Bool) (w : World) (hC : Kd.C k105 w A l.length l) (hc : l.length ≤ c)
  (hF : ∀ x ∈ l, ∀ (A : Option Addr) (c : Nat) (A2 : Option Addr) (c2 : Nat) (W : World), Below w.heap.size w W → Kd.C Kd.string W A x.f0.length x.f0 → x.f0.length ≤ c → Kd.C Kd.string W A2 x.f2.length x.f2 → x.f2.length ≤ c2 → Calls Tryz.prog 60 #[.agg #[.slice A x.f0.length c, .string x.f1, .slice A2 x.f2.length c2]] W fun e w' => e = .returned (.bool (p x)) ∧ Below W.heap.size W w') :
  Calls Tryz.prog 114 #[.slice A l.length c, .func (.func 60) #[] #[]] w fun e w' => e = .returned (.int .i64 (idxP p 0 l)) ∧ Below w.heap.size w w' := by
 have HC := Aside0.mk hC
 have HF := Aside0.mk hF
 have HB0 := Aside0.mk (Below.refl w.heap.size w)
 clear hC hF
 go_enter Tryz.func114, Tryz.ntmps114
 go_wp2
 go_loopg [8] l.length (fun gk v8 wx => ∃ (i : Nat), i + gk = l.length ∧ v8 = .int .i64 i ∧ Aside0 (Below w.heap.size w wx) ∧ Aside0 (idxP p 0 l = idxP p i (l.drop i)))
 case atStart => exact ⟨0, by omega, rfl, HB0, ⟨by simp⟩⟩
 case round =>
  clear HB0
  obtain ⟨i, hi, rfl, HW, HP⟩ := hrel
  cases gk with
  | zero =>
   have e : l.drop i = [] := List.drop_eq_nil_of_le (by omega)
   have hp := HP.out
   rw [e] at hp
   have hii : ¬ (i : Int) < (l.length : Int) := by omega
   go_wp2
   go_ret
   exact ⟨by first | rfl | (rw [hp]; rfl), HW.out⟩
  | succ gk =>
   have hlt : i < l.length := by omega
   have hii : (i : Int) < (l.length : Int) := by omega
   have hi0 : (0 : Int) ≤ (i : Int) := by omega
   have hdr : l.drop i = l[i] :: l.drop (i + 1) := List.drop_eq_getElem_cons hlt
   have hrd : rd_T105 l (i : Int) = l[i] := by unfold rd_T105; simp [List.getD, hlt]
   obtain ⟨ad2, A0, c0, A2, c2, hA, hx0, hx1, hx2, hl0, hC0, hl2, hC2⟩ := at_T105 HC.out (i : Int) hi0 hii
   cases hA
   rw [hrd] at hx0 hx1 hx2 hl0 hC0 hl2 hC2
   rw [Int.toNat_natCast] at hx0 hx1 hx2
   have hy0 := (HW.out.cell (World.block_lt_of_cell? w _ hx0)).trans hx0
   have hy1 := (HW.out.cell (World.block_lt_of_cell? w _ hx1)).trans hx1
   have hy2 := (HW.out.cell (World.block_lt_of_cell? w _ hx2)).trans hx2
   have HM := List.getElem_mem hlt
   have hp := HP.out
   rw [hdr, idxP] at hp
   generalize l[i] = x at *
   have HN := Aside0.mk (HF.out x HM A0 c0 A2 c2 wr HW.out (Kd.C_below hC0 HW.out) hl0 (Kd.C_below hC2 HW.out) hl2)
   clear hx0 hx1 hx2 hC0 hC2 HM
   cases hh : p x with
   | true =>
    rw [hh] at HN
    rw [if_pos hh] at hp
    clear hh
    go_wp2_with (go_at_call 60; refine HN.out.mono ?_; rintro e w1 ⟨rfl, hb1⟩)
    go_ret
    exact ⟨by first | rfl | (rw [hp]; rfl), below_step HW.out hb1⟩
   | false =>
    rw [hh] at HN
    rw [if_neg (by rw [hh]; decide)] at hp
    clear hh
    go_wp2_with (go_at_call 60; refine HN.out.mono ?_; rintro e w1 ⟨rfl, hb1⟩)
    go_roundg gk
    case measure => omega
    case rel => exact ⟨i + 1, by omega, by first | rfl | (simp; done) | (have := HC.out.2.1; simp; unfold wrap64; omega), ⟨below_step HW.out hb1⟩, ⟨hp⟩⟩
theorem conR_walk (A : Option Addr) (c : Nat) (l : List S105) (p : S105 → Bool) (w : World) (hC : Kd.C k105 w A l.length l) (hc : l.length ≤ c)
  (hF : ∀ x ∈ l, ∀ (A : Option Addr) (c : Nat) (A2 : Option Addr) (c2 : Nat) (W : World), Below w.heap.size w W → Kd.C Kd.string W A x.f0.length x.f0 → x.f0.length ≤ c → Kd.C Kd.string W A2 x.f2.length x.f2 → x.f2.length ≤ c2 → Calls Tryz.prog 60 #[.agg #[.slice A x.f0.length c, .string x.f1, .slice A2 x.f2.length c2]] W fun e w' => e = .returned (.bool (p x)) ∧ Below W.heap.size W w') :
  Calls Tryz.prog 59 #[.slice A l.length c, .func (.func 60) #[] #[]] w fun e w' => e = .returned (.bool (l.any p)) ∧ Below w.heap.size w w' := by
 have HI := Aside0.mk (idxR_walk A c l p w hC hc hF)
 have HA := Aside0.mk (idxP_any p l 0)
 clear hC hF
 go_enter Tryz.func59, Tryz.ntmps59
 cases hq : l.any p with
 | true =>
  have d1 : decide (0 ≤ idxP p 0 l) = true := decide_eq_true (HA.out.1 hq)
  clear hq
  go_wp2_with (go_at_call 114; refine HI.out.mono ?_; rintro e w1 ⟨rfl, hb1⟩)
  go_ret
  exact ⟨rfl, hb1⟩
 | false =>
  have d1 : decide (0 ≤ idxP p 0 l) = false := decide_eq_false (HA.out.2 hq)
  clear hq
  go_wp2_with (go_at_call 114; refine HI.out.mono ?_; rintro e w1 ⟨rfl, hb1⟩)
  go_ret
  exact ⟨rfl, hb1⟩
end Go.Proofs.YthgfdnffnbclpaaGreatDoor.PAll
