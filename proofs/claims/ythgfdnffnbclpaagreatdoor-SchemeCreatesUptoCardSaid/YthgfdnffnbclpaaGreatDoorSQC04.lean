import Derived.Test.YthgfdnffnbclpaaGreatDoorSQC03
import Derived.Deep.MidRow
import Derived.Lib.LazyBuf
import Derived.Laws.ResultCell
import Derived.Maps.OwnSet
import Derived.DeepKeys3
import Derived.DeepKeys4
import Derived.Maps.OwnOps
import Derived.Test.YthgfdnffnbclpaaGreatDoorRows
import Derived.Test.YthgfdnffnbclpaaGreatDoorCards
import Derived.Test.YthgfdnffnbclpaaGreatDoorTie
import Derived.WalkKit
import Derived.ProofKit
import Derived.OpenShut
import Derived.ShutString
import Derived.ChangeOld
import Derived.Below
import Derived.Carry
import Derived.SizedLaws
import Derived.HandedShaped
import Derived.Lib.SmallJoins
import Derived.Lib.LaidTab
import Derived.Shelf.Vars
import Derived.Lay
import Derived.LaidOnce
import Derived.SevenTiedAt
import Derived.Stop.LaidErr
import Derived.Deep.Slices
import Derived.Deep.Fields
import Derived.ChangeSame
import Derived.Deep.Upon
set_option linter.unusedVariables false
set_option linter.unusedSimpArgs false
namespace Go.Proofs.YthgfdnffnbclpaaGreatDoor.PAll
open Go.RowKit Go.Proofs.YthgfdnffnbclpaaGreatDoorW.PrintWords Go.Proofs.YthgfdnffnbclpaaGreatDoorW.PrintLast Go.Proofs.YthgfdnffnbclpaaGreatDoorW.PrintMore
def zaM (x : S64) : List Value := [.int .u8 x.f0, .int .i64 x.f1, .string x.f2]
def tupC (t : List S64) : List Value := t.flatMap zaM
def tup0 : List S64 := List.replicate 8 z64
def zbG (row : List S64) : Nat → List Int → List S64 → Option (List S64 × Bool)
 | _, [], t => some (t, true)
 | i, c :: r, t => if i < 8 ∧ 0 ≤ c ∧ c < (row.length : Int) then (if (rd_T64 row c).f0 = 0 then some (t.set i (rd_T64 row c), false) else zbG row (i + 1) r (t.set i (rd_T64 row c))) else none
theorem ze4 (t : List S64) : ∀ (q r : Nat), r < 3 → (tupC t)[3 * q + r]? = (t[q]?).bind fun x => (zaM x)[r]? := by
 induction t with
 | nil => intro q r _; simp [tupC]
 | cons x t ih =>
  intro q r hr
  have e : tupC (x :: t) = zaM x ++ tupC t := by simp [tupC]
  have hl : (zaM x).length = 3 := rfl
  rw [e]
  cases q with
  | zero => rw [List.getElem?_append_left (by omega)]; simp
  | succ q => rw [List.getElem?_append_right (by omega), hl, show 3 * (q + 1) + r - 3 = 3 * q + r by omega, ih q r hr]; simp
theorem zaF (t : List S64) : (tupC t).length = 3 * t.length := by
 induction t with
 | nil => rfl
 | cons x t ih =>
  have e : tupC (x :: t) = zaM x ++ tupC t := by simp [tupC]
  have hl : (zaM x).length = 3 := rfl
  rw [e, List.length_append, ih, hl, List.length_cons]; omega
def tupF (t : List S64) (j : Nat) : Value := ((tupC t)[j]?).getD default
theorem zkd (t : List S64) (i : Nat) (hi : i < t.length) (v : S64) (j : Nat) : (if 3 * i ≤ j ∧ j < 3 * i + 3 then ((zaM v)[j - 3 * i]?).getD default else tupF t j) = tupF (t.set i v) j := by
 obtain ⟨q, r, hr, rfl⟩ : ∃ q r, r < 3 ∧ j = 3 * q + r := ⟨j / 3, j % 3, by omega, by omega⟩
 unfold tupF
 rw [ze4 _ q r hr, ze4 _ q r hr, List.getElem?_set]
 by_cases h : i = q
 ·subst h
  rw [if_pos (by omega), if_pos rfl, if_pos hi, show 3 * i + r - 3 * i = r by omega]
  rfl
 ·rw [if_neg (by omega), if_neg h]
def TB (w : World) (B : Nat) (t : List S64) : Prop := w.rowIs B 170 24 (tupF t) ∧ t.length = 8
theorem TB.range {w : World} {B : Nat} {t : List S64} (h : TB w B t) : w.rangeAt B 0 (tupC t) := by
 intro j v hj
 have hl := zaF t
 have hlt : j < 24 := by have := (List.getElem?_eq_some_iff.1 hj).1; have := h.2; omega
 rw [Nat.zero_add, h.1.cell hlt]
 unfold tupF
 rw [hj]; rfl
theorem TB.there {w : World} {B : Nat} {t : List S64} (h : TB w B t) (o n : Nat) (hn : o + n ≤ 24) : w.there B o n := by
 intro j hj
 rw [h.1.cell (by omega)]
 exact ⟨rfl, h.1.frozen _⟩
theorem TB.set {w : World} {B : Nat} {t : List S64} (h : TB w B t) (i : Nat) (hi : i < 8) (v : S64) : TB (w.setCells B (i * 3) (zaM v)) B (t.set i v) := by
 rw [Nat.mul_comm i 3]
 refine ⟨(Go.rowIs_setCells (zaM v) (3 * i) w _ h.1).congr (fun j hj => ?_), by rw [List.length_set]; exact h.2⟩
 exact zkd t i (by rw [h.2]; exact hi) v j
theorem zhB (x : S64) : (zaM x).toArray.all (·.oneCell') = true := by simp [zaM, Value.oneCell']
theorem zcy (t : List S64) : (tupC t).toArray.all (·.oneCell') = true := by
 rw [Array.all_eq_true_iff_forall_mem]
 intro v hv
 have hv' : v ∈ tupC t := by simpa using hv
 unfold tupC at hv'
 obtain ⟨x, _, hx⟩ := List.mem_flatMap.1 hv'
 simp [zaM] at hx
 rcases hx with rfl | rfl | rfl <;> rfl
theorem TB.self {w : World} {B : Nat} {t : List S64} (h : TB w B t) : TB (w.setCells B 0 (tupC t)) B t := by
 refine ⟨(Go.rowIs_setCells (tupC t) 0 w _ h.1).congr (fun j hj => ?_), h.2⟩
 have hl := zaF t
 rw [if_pos (by have := h.2; omega)]
 rfl
set_option maxRecDepth 100000 in
theorem zd7 (A : Option Addr) (c : Nat) (row : List S64) (A2 : Option Addr) (c2 : Nat) (cols : List Int) (t : List S64) (b : Bool) (w : World) (hC : Kd.C k64 w A row.length row) (hc : row.length ≤ c) (hC2 : Kd.C (Kd.int .i64) w A2 cols.length cols) (hc2 : cols.length ≤ c2)
  (h : zbG row 0 cols tup0 = some (t, b)) :
  Calls Tryz.prog 125 #[.slice A row.length c, .slice A2 cols.length c2] w fun e w' => e = .returned (.tuple #[.agg (tupC t).toArray, .bool b]) ∧ Below w.heap.size w w' := by
 obtain ⟨B, hBd⟩ : ∃ B, B = w.heap.size := ⟨_, rfl⟩
 have HBD := Aside0.mk hBd
 have HC := Aside0.mk hC
 have HC2 := Aside0.mk hC2
 have HH := Aside0.mk h
 clear hC hC2 h
 go_enter Tryz.func125, Tryz.ntmps125
 go_wp2
 have htb : TB (w.alloc (Obj.cells #[Value.int IntKind.u8 0, Value.int IntKind.i64 0, Value.string ⟨#[]⟩, Value.int IntKind.u8 0, Value.int IntKind.i64 0, Value.string ⟨#[]⟩, Value.int IntKind.u8 0, Value.int IntKind.i64 0, Value.string ⟨#[]⟩, Value.int IntKind.u8 0, Value.int IntKind.i64 0, Value.string ⟨#[]⟩,
   Value.int IntKind.u8 0, Value.int IntKind.i64 0, Value.string ⟨#[]⟩, Value.int IntKind.u8 0, Value.int IntKind.i64 0, Value.string ⟨#[]⟩, Value.int IntKind.u8 0, Value.int IntKind.i64 0, Value.string ⟨#[]⟩, Value.int IntKind.u8 0, Value.int IntKind.i64 0, Value.string ⟨#[]⟩] 170)) B tup0 := by
  rw [hBd]
  refine ⟨World.rowIs_alloc w (tupC tup0).toArray 170 _ (fun j hj => ?_), rfl⟩
  unfold tupF
  have : j < (tupC tup0).length := by simpa using hj
  rw [List.getElem?_toArray, List.getElem?_eq_getElem this]
  rfl
 have hbel : Below w.heap.size w (w.alloc (Obj.cells #[Value.int IntKind.u8 0, Value.int IntKind.i64 0, Value.string ⟨#[]⟩, Value.int IntKind.u8 0, Value.int IntKind.i64 0, Value.string ⟨#[]⟩, Value.int IntKind.u8 0, Value.int IntKind.i64 0, Value.string ⟨#[]⟩, Value.int IntKind.u8 0, Value.int IntKind.i64 0, Value.string ⟨#[]⟩,
   Value.int IntKind.u8 0, Value.int IntKind.i64 0, Value.string ⟨#[]⟩, Value.int IntKind.u8 0, Value.int IntKind.i64 0, Value.string ⟨#[]⟩, Value.int IntKind.u8 0, Value.int IntKind.i64 0, Value.string ⟨#[]⟩, Value.int IntKind.u8 0, Value.int IntKind.i64 0, Value.string ⟨#[]⟩] 170)) := (Below.refl _ _).alloc (Nat.le_refl _) _
 generalize (w.alloc _) = W1 at htb hbel ⊢
 rw [← hBd]
 have HBL := Aside0.mk hbel
 have HTB := Aside0.mk htb
 clear hbel htb hBd
 go_loopg [10] cols.length (fun gk v10 wx => ∃ (i : Nat) (t1 : List S64), i + gk = cols.length ∧ v10 = .int .i64 i ∧ Aside0 (TB wx B t1) ∧ Aside0 (Below w.heap.size w wx) ∧ Aside0 (zbG row i (cols.drop i) t1 = some (t, b)))
 case atStart => exact ⟨0, tup0, by omega, rfl, HTB, HBL, HH⟩
 case round =>
  obtain ⟨i, t1, hi, rfl, HT, HW, HP⟩ := hrel
  cases gk with
  | zero =>
   have e : cols.drop i = [] := List.drop_eq_nil_of_le (by omega)
   have hp := HP.out
   rw [e] at hp
   simp only [zbG, Option.some.injEq, Prod.mk.injEq] at hp
   obtain ⟨rfl, rfl⟩ := hp
   have hii : ¬ (i : Int) < (cols.length : Int) := by omega
   have hz : (Tryz.prog.info? 170).map (·.size) = some (tupC t1).length := by rw [zaF, HT.out.2]; kernel_rfl
   have hza : (Tryz.prog.info? 170).map (·.size) = some (tupC t1).toArray.size := by rw [List.size_toArray]; exact hz
   have hone : (tupC t1).toArray.all (·.oneCell') = true := zcy t1
   have hth : wr.there B 0 (tupC t1).toArray.size := HT.out.there 0 _ (by rw [List.size_toArray, zaF, HT.out.2]; omega)
   go_wp2_with (first | (refine wpList_load_mid rfl 170 (.tmp 4) rfl B 0 rfl (tupC t1) _ HT.out.range Tryz.underlying170 rfl hz ?_) | (refine wpList_store_mid rfl 170 (.tmp 4) _ rfl B 0 (tupC t1).toArray rfl rfl hth hza hone ?_))
   have hV := Aside0.mk (run_loadVar_mid (P := Tryz.prog) _ B 0 170 (tupC t1) _ HT.out.self.range Tryz.underlying170 rfl hz)
   refine bodyPost_ret (v := .tuple #[.agg (tupC t1).toArray, .bool true]) (by rw [results_cell_tmp rfl]; show (((loadVar 170 ⟨B, 0, none⟩).run _ _).andThen _) = _; rw [hV.out]; rfl) rfl ⟨rfl, ?_⟩
   exact Go.below_setCells (B := w.heap.size) (by rw [← HBD.out]; exact Nat.le_refl _) _ _ _ HW.out
  | succ gk =>
   have hlt : i < cols.length := by omega
   have hii : (i : Int) < (cols.length : Int) := by omega
   have hi0 : (0 : Int) ≤ (i : Int) := by omega
   have hdr : cols.drop i = cols[i] :: cols.drop (i + 1) := List.drop_eq_getElem_cons hlt
   have hrd : rd cols (i : Int) = cols[i] := by unfold rd; simp [List.getD, hlt]
   obtain ⟨ad2, hA2, hx2⟩ := Kd.at_int HC2.out (i : Int) hi0 hii
   cases hA2
   rw [hrd, Int.toNat_natCast] at hx2
   have hr2 := (HW.out.cell (World.block_lt_of_cell? w _ hx2)).trans hx2
   have hp := HP.out
   rw [hdr, zbG] at hp
   generalize cols[i] = cc at *
   by_cases hin : i < 8 ∧ 0 ≤ cc ∧ cc < (row.length : Int)
   case neg => rw [if_neg hin] at hp; cases hp
   rw [if_pos hin] at hp
   obtain ⟨h8, hc0, hcl⟩ := hin
   obtain ⟨ad, hA, hy0, hy1, hy2⟩ := zcG HC.out cc hc0 hcl
   cases hA
   have hz0 := (HW.out.cell (World.block_lt_of_cell? w _ hy0)).trans hy0
   have hz1 := (HW.out.cell (World.block_lt_of_cell? w _ hy1)).trans hy1
   have hz2 := (HW.out.cell (World.block_lt_of_cell? w _ hy2)).trans hy2
   generalize hv : rd_T64 row cc = v at *
   have hthi : wr.there B (i * 3) (zaM v).toArray.size := HT.out.there _ _ (by simp [zaM]; omega)
   have hzi : (Tryz.prog.info? 87).map (·.size) = some (zaM v).toArray.size := by
    show _ = some 3
    kernel_rfl
   have h8i : (i : Int) < 8 := by omega
   have hT2 := HT.out.set i h8 v
   have hc2' : (wr.setCells B (i * 3) (zaM v)).cell? ⟨B, i * 3, none⟩ = some (.int .u8 v.f0) := by
    rw [hT2.1.cell (by omega)]
    unfold tupF
    have := ze4 (t1.set i v) i 0 (by omega)
    rw [show i * 3 = 3 * i + 0 by omega, this, List.getElem?_set_self (by rw [HT.out.2]; exact h8)]
    rfl
   have hB2 : Below w.heap.size w (wr.setCells B (i * 3) (zaM v)) := Go.below_setCells (B := w.heap.size) (by rw [← HBD.out]; exact Nat.le_refl _) _ _ _ HW.out
   have hsv : (zaM v).toArray = #[.int .u8 v.f0, .int .i64 v.f1, .string v.f2] := rfl
   rw [hsv] at hthi hzi
   have hone : (#[.int .u8 v.f0, .int .i64 v.f1, .string v.f2] : Array Value).all (·.oneCell') = true := zhB v
   generalize hW2 : wr.setCells B (i * 3) (zaM v) = W2 at *
   have hW2' : wr.setCells B (i * 3) (#[.int .u8 v.f0, .int .i64 v.f1, .string v.f2] : Array Value).toList = W2 := hW2
   by_cases hv0 : v.f0 = 0
   ·rw [if_pos hv0] at hp
    simp only [Option.some.injEq, Prod.mk.injEq] at hp
    obtain ⟨rfl, rfl⟩ := hp
    have hv0b : (v.f0 == 0) = true := beq_iff_eq.mpr hv0
    clear hv0
    have hT2' := Aside0.mk hT2
    clear hT2
    have hz : (Tryz.prog.info? 170).map (·.size) = some (tupC (t1.set i v)).length := by rw [zaF, hT2'.out.2]; kernel_rfl
    have hza : (Tryz.prog.info? 170).map (·.size) = some (tupC (t1.set i v)).toArray.size := by rw [List.size_toArray]; exact hz
    have hone2 : (tupC (t1.set i v)).toArray.all (·.oneCell') = true := zcy _
    have hth2 : W2.there B 0 (tupC (t1.set i v)).toArray.size := hT2'.out.there 0 _ (by rw [List.size_toArray, zaF, hT2'.out.2]; omega)
    go_wp2_with (first | (refine wpList_store_mid rfl 87 (.tmp 20) _ rfl B (i * 3) _ rfl rfl hthi hzi hone ?_; rw [hW2']) | (refine wpList_load_mid rfl 170 (.tmp 4) rfl B 0 rfl (tupC (t1.set i v)) _ hT2'.out.range Tryz.underlying170 rfl hz ?_) | (refine wpList_store_mid rfl 170 (.tmp 4) _ rfl B 0 (tupC (t1.set i v)).toArray rfl rfl hth2 hza hone2 ?_))
    have hV := Aside0.mk (run_loadVar_mid (P := Tryz.prog) _ B 0 170 (tupC (t1.set i v)) _ hT2'.out.self.range Tryz.underlying170 rfl hz)
    (try simp only [Exit.inBlock, Exit.then])
    refine bodyPost_ret (v := .tuple #[.agg (tupC (t1.set i v)).toArray, .bool false]) (by rw [results_cell_tmp rfl]; show (((loadVar 170 ⟨B, 0, none⟩).run _ _).andThen _) = _; rw [hV.out]; rfl) rfl ⟨rfl, ?_⟩
    exact Go.below_setCells (B := w.heap.size) (by rw [← HBD.out]; exact Nat.le_refl _) _ _ _ hB2
   ·rw [if_neg hv0] at hp
    have hT2' := Aside0.mk hT2
    clear hT2
    have hv0b : (v.f0 == 0) = false := beq_eq_false_iff_ne.mpr hv0
    go_wp2_with (first | (refine wpList_store_mid rfl 87 (.tmp 20) _ rfl B (i * 3) _ rfl rfl hthi hzi hone ?_; rw [hW2']))
    go_roundg gk
    case measure => omega
    case rel => exact ⟨i + 1, t1.set i v, by omega, by first | rfl | (simp; done) | (simp; unfold wrap64; omega), hT2', ⟨hB2⟩, ⟨hp⟩⟩
end Go.Proofs.YthgfdnffnbclpaaGreatDoor.PAll
namespace Go.Proofs.YthgfdnffnbclpaaGreatDoor.PAll
open Go Go.ChangeMaps Go.MapKept Go.RowKit
open Go.WideElems (Fit rd rg pl rd_val elemAt)
open Go.Maps (Keyed)
def boolR : Value → Option (DataW Unit × List MemPlace)
 | .bool true => some (.lit (.bool true), [])
 | _ => none
theorem ziK {v : Value} {z : DataW Unit × List MemPlace} (h : boolR v = some z) : v = .bool true := by
 unfold boolR at h
 split at h
 ·rfl
 ·cases h
section
variable {P : Program} {k t e : TypeId} {w : World} {b : Nat} {R : Value → Option (DataW Unit × List MemPlace)} {S : List Value}
def SetM (P : Program) (k : TypeId) (R : Value → Option (DataW Unit × List MemPlace)) (w : World) (b : Nat) (S : List Value) : Prop :=
 ∃ D : DataW Unit, w.ownsMap P k R b S.length D ∧ ∀ v l, keyOf P k v = some l → (Maps.has D l = true ↔ v ∈ S)
theorem SetM.made (w : World) : SetM P k R (w.alloc (.map #[] 0)) w.heap.size [] :=
 ⟨.map [], World.ownsMap_made w P k R, fun v l _ => by simp [Maps.has]⟩
theorem SetM.kept {w' : World} (h : SetM P k R w b S) (hb : w'.heap[b]? = w.heap[b]?) : SetM P k R w' b S := by
 obtain ⟨D, ⟨es, clock, h1, h2⟩, hD⟩ := h
 exact ⟨D, ⟨es, clock, hb.trans h1, h2⟩, hD⟩
theorem SetM.block (h : SetM P k R w b S) : ∃ es clock, w.heap[b]? = some (.map es clock) := by
 obtain ⟨D, ⟨es, clock, h1, h2⟩, hD⟩ := h
 exact ⟨es, clock, h1⟩
theorem SetM.look_bool (h : SetM P k boolR w b S) (K : Keyed P k) (ht : P.underlying t = some (.map k e)) (hz : (zeroValue e).run P w = .ok (.bool false) w) {key : Value} {kl : Lit} (hkey : keyOf P k key = some kl) (m : Bool) (hm : m = true ↔ key ∈ S) :
  (Instr.lookup t (.map (some b)) key false).run P w = .ok (.bool m) w := by
 obtain ⟨D, ⟨es, clock, hb, F, hs, rfl⟩, hD⟩ := h
 rcases Maps.fit_look false K ht hz hb F hkey with ⟨hrun, _, hat⟩ | ⟨e0, y, _, _, hrun, hRv, hat, _⟩
 ·have h0 := Maps.has_false_of_atKey hat
  have hm' : m = false := by
   cases m
   ·rfl
   ·have := (hD _ _ hkey).2 (hm.1 rfl)
    rw [h0] at this
    cases this
  rw [hm']
  exact hrun
 ·have h0 := Maps.has_true_of_atKey hat
  have hm' : m = true := hm.2 ((hD _ _ hkey).1 h0)
  rw [hm', ← ziK hRv]
  exact hrun
theorem SetM.look_unit (h : SetM P k (unitElem (H := Unit)) w b S) (K : Keyed P k) (ht : P.underlying t = some (.map k e)) (hz : (zeroValue e).run P w = .ok (.agg #[]) w) {key : Value} {kl : Lit} (hkey : keyOf P k key = some kl) (m : Bool) (hm : m = true ↔ key ∈ S) :
  (Instr.lookup t (.map (some b)) key true).run P w = .ok (.tuple #[.agg #[], .bool m]) w := by
 obtain ⟨D, ho, hD⟩ := h
 obtain ⟨v, ps, hrun, hv⟩ := ho.look_ok K ht hz (zd := .agg []) (zp := []) unitElem_mk hkey
 obtain ⟨rfl, _⟩ := unitElem_inv hv
 have : m = Maps.has D kl := by
  cases hh : Maps.has D kl with
  | true => exact hm.2 ((hD _ _ hkey).1 hh)
  | false =>
   cases m with
   | false => rfl
   | true => have := (hD _ _ hkey).2 (hm.1 rfl); rw [hh] at this; cases this
 rw [this]
 exact hrun
theorem SetM.store (h : SetM P k R w b S) (K : Keyed P k) (ht : P.underlying t = some (.map k e)) (hn : S.length < maxLen) {key val : Value} {kl : Lit} {d : DataW Unit} {ps : List MemPlace}
  (hkey : keyOf P k key = some kl) (hv : R val = some (d, ps)) : ∃ w', (Instr.mapUpdate t (.map (some b)) key val).run P w = .ok () w' ∧ SetM P k R w' b (key :: S) ∧ w.mapTurned w' b := by
 obtain ⟨D, ho, hD⟩ := h
 obtain ⟨w', h1, h2, h3⟩ := ho.store K ht hn hkey hv
 refine ⟨w', h1, ⟨_, h2, fun v l hl => ?_⟩, h3⟩
 by_cases he : v = key
 ·subst he
  obtain rfl : kl = l := Option.some.inj (hkey.symm.trans hl)
  rw [Maps.has_put_same ho.isMap (K.key hkey) d]
  simp
 ·have hne : l ≠ kl := fun e' => he (K.inj hl (e' ▸ hkey))
  rw [Maps.has_put_other hne d, hD v l hl]
  simp [he]
end
section
variable {P : Program} (w : World) {ops : Array Oper} {rest : List Oper} {o : Oper} {a : Act} {Q : Exit → Act → World → Prop}
theorem zaA (hg : o.guard = none) (m x : Operand) (t : TypeId) (c : Bool) (hop : o.op = Op.lookup t m x c) {mv key r : Value} (hm : a.eval m = mv) (hx : a.eval x = key)
  (hrun : (Instr.lookup t mv key c).run P w = .ok r w) (hK : wpList P ops Q rest (a.put o.dst r) w) : wpList P ops Q (o :: rest) a w := by
 refine wpList_plain hg fun K' hK' => ?_
 unfold Oper.wp
 simp [execOp, hop, hm, hx, hrun, Result.andThen]
 exact hK' _ _ hK
theorem zaS (hg : o.guard = none) (m x v : Operand) (t : TypeId) (hop : o.op = Op.mapUpdate t m x v) {mv key val : Value} {w' : World} (hm : a.eval m = mv) (hx : a.eval x = key) (hv : a.eval v = val)
  (hrun : (Instr.mapUpdate t mv key val).run P w = .ok () w') (hK : wpList P ops Q rest (a.put o.dst undef) w') : wpList P ops Q (o :: rest) a w := by
 refine wpList_plain hg fun K' hK' => ?_
 unfold Oper.wp
 simp [execOp, hop, hm, hx, hv, hrun, Result.andThen]
 exact hK' _ _ hK
end
end Go.Proofs.YthgfdnffnbclpaaGreatDoor.PAll
namespace Go.Proofs.YthgfdnffnbclpaaGreatDoor.PAll
open Go.RowKit Go.Proofs.YthgfdnffnbclpaaGreatDoorW.PrintWords Go.Proofs.YthgfdnffnbclpaaGreatDoorW.PrintLast Go.Proofs.YthgfdnffnbclpaaGreatDoorW.PrintMore
section
variable {P : Program} {ops : Array Oper} {Q : Exit → Act → World → Prop}
theorem zeF {rest : List Oper} {o : Oper} {a : Act} {W : World} {x : Operand} {xs : Array Operand} {ts : Array TypeId} (_ho : o.op = .call { callee := .value x, args := xs, argTypes := ts }) (h : wpList P ops Q (o :: rest) a W) : wpList P ops Q (o :: rest) a W := h
theorem zkt {rest : List Oper} {oi : Oper} {a : Act} {w : World} (N : Option Tmp) (x : Operand) (hd : oi.dst = N) (hg : oi.guard = none) {f : FuncId} {fn : Func} {xs : Array Operand} {ts : Array TypeId} (hf : P.funcs[f]? = some fn) (hname : (fn.name == "runtime.NumGoroutine") = false) (hb : fn.body.isSome = true) (args : Array Value)
  (hop : oi.op = .call { callee := .value x, args := xs, argTypes := ts }) (hargs : xs.map a.eval = args)
  (h : Calls P f args w fun e w' => ∃ v, e = .returned v ∧ wpList P ops Q rest (a.put N v) w') (hx : a.eval x = .func (.func f) #[] #[] := by rfl) : wpList P ops Q (oi :: rest) a w := by
 refine wpList_plain hg fun K hK => ?_
 have he := zgq hf hname hb args w
 have hrun : (execOp a.eval oi).run P w = .ok (.enter f args) w := by
  unfold execOp
  simp [hop, resolve, Deferred.ofValue, invoke, hargs, he, hx]
 unfold Oper.wp
 rw [hrun, Oper.upon_enter]
 refine h.mono fun e w'' hh => ?_
 obtain ⟨v, rfl, hk⟩ := hh
 subst hd
 exact hK _ _ hk
end
end Go.Proofs.YthgfdnffnbclpaaGreatDoor.PAll
namespace Go.Proofs.YthgfdnffnbclpaaGreatDoor.PAll
open Go.RowKit Go.Proofs.YthgfdnffnbclpaaGreatDoorW.PrintWords Go.Proofs.YthgfdnffnbclpaaGreatDoorW.PrintLast Go.Proofs.YthgfdnffnbclpaaGreatDoorW.PrintMore
def wfV (x : S64) : Prop := (Lit.int .u8 x.f0).wf = true ∧ (Lit.int .i64 x.f1).wf = true ∧ x.f2.size ≤ maxLen
theorem zkh : laidOutB Tryz.prog = true := by kernel_rfl
theorem zjF : Maps.Keyed Tryz.prog 170 := Maps.Keyed.of_law (deep_law_laid zkh (m := 9) (by omega) (by decide +kernel) (by kernel_rfl) (by kernel_rfl))
theorem c62 : Tryz.prog.cellsOf 81 = 1 := by kernel_rfl
theorem c2 : Tryz.prog.cellsOf 2 = 1 := by kernel_rfl
theorem c9 : Tryz.prog.cellsOf 9 = 1 := by kernel_rfl
theorem c64 : Tryz.prog.cellsOf 87 = 3 := by kernel_rfl
theorem c90 : Tryz.prog.cellsOf 170 = 24 := by kernel_rfl
theorem zlk (d : Nat) (x : S64) (h : wfV x) : ∃ L, Tryz.prog.keyLits (d + 2) 87 (zaM x) = some L := by
 obtain ⟨h0, h1, h2⟩ := h
 have e : Tryz.prog.keyLits (d + 2) 87 (zaM x) = some [.int .u8 x.f0, .int .i64 x.f1, .string x.f2.data.toList] := by
  simp [Program.keyLits, Tryz.underlying87, Tryz.underlying81, Tryz.underlying2, Tryz.underlying9, zaM, c62, c2, c9, c64, h0, h1, h2]
 exact ⟨_, e⟩
theorem zfp {α β : Type} (f : α → Option β) : ∀ l : List α, (∀ x ∈ l, ∃ y, f x = some y) → ∃ r, l.mapM f = some r
 | [], _ => ⟨[], rfl⟩
 | x :: l, h => by
  obtain ⟨y, hy⟩ := h x (by simp)
  obtain ⟨r, hr⟩ := zfp f l (fun z hz => h z (by simp [hz]))
  exact ⟨y :: r, by simp [List.mapM_cons, hy, hr]⟩
theorem zjX (t : List S64) (i : Nat) (hi : i < t.length) : ((tupC t).drop (i * 3)).take 3 = zaM t[i] := by
 apply List.ext_getElem?
 intro j
 rw [List.getElem?_take]
 by_cases hj : j < 3
 ·rw [if_pos hj, List.getElem?_drop, show i * 3 + j = 3 * i + j by omega, ze4 t i j hj, List.getElem?_eq_getElem hi]; rfl
 ·rw [if_neg hj]
  have : (zaM t[i]).length = 3 := rfl
  rw [List.getElem?_eq_none (by omega)]
theorem zgt (t : List S64) (h8 : t.length = 8) (hw : ∀ x ∈ t, wfV x) : ∃ l, keyOf Tryz.prog 170 (.agg (tupC t).toArray) = some l := by
 obtain ⟨d, hd⟩ : ∃ d, Tryz.prog.types.size + 1 = d + 3 := by
  have : 2 ≤ Tryz.prog.types.size := by decide +kernel
  exact ⟨Tryz.prog.types.size - 2, by omega⟩
 have h1 : ∃ L, Tryz.prog.keyLits (d + 3) 170 (tupC t) = some L := by
  obtain ⟨r, hr⟩ := zfp (fun i => Tryz.prog.keyLits (d + 2) 87 (((tupC t).drop (i * 3)).take 3)) (List.range 8) (fun i hi => by
   have hi8 : i < t.length := by rw [h8]; exact List.mem_range.1 hi
   simp only [zjX t i hi8]
   exact zlk d _ (hw _ (List.getElem_mem hi8)))
  have hu : Tryz.prog.underlying 170 = some (.array 8 87) := Tryz.underlying170
  refine ⟨r.flatten, ?_⟩
  rw [Program.keyLits.eq_def]
  simp only [hu, zaF, h8, c90, c64, hr]
  rfl
 obtain ⟨L, hL⟩ := h1
 have hk : Tryz.prog.keyType 170 = true := by kernel_rfl
 have hf : (Value.agg (tupC t).toArray).formed Tryz.prog 170 = true := by
  unfold Value.formed
  simp only [Tryz.underlying170, List.size_toArray, zaF, h8, c90]
  rfl
 unfold keyOf
 simp only [Tryz.underlying170, hk, hf, hd, Value.cells]
 exact ⟨.string (keyBytes L), by simp [hL]⟩
end Go.Proofs.YthgfdnffnbclpaaGreatDoor.PAll
namespace Go
variable {H : Type} {enc : TypeId × Value → H}
end Go
namespace Go.Proofs.YthgfdnffnbclpaaGreatDoor
open Go.ChangeShapes Go.WideShapes Go.ChangeAt Go.RowKit
open Go.ChangeMaps (open_string shut_string)
theorem own : ownKnob Tryz.prog.godebug = none := by kernel_rfl
theorem zgm : laidOutB Tryz.prog = true := by kernel_rfl
def lst : List (String × DataW Unit) := Rows.schemeDropsRow.laid
theorem ziI : (Rows.laid_strings_asciiSpace : DataW Unit) = Lib.tabData .u8 Lib.asciiSpaceTab := by kernel_rfl
theorem zj3 (c : Nat) (hc : c < 256) : Lib.asciiSpaceTab.getD c 0 = if c = 9 ∨ c = 10 ∨ c = 11 ∨ c = 12 ∨ c = 13 ∨ c = 32 then 1 else 0 := by
 have h : ∀ n : Fin 256, Lib.asciiSpaceTab.getD n.val 0 = if n.val = 9 ∨ n.val = 10 ∨ n.val = 11 ∨ n.val = 12 ∨ n.val = 13 ∨ n.val = 32 then 1 else 0 := by decide +kernel
 exact h ⟨c, hc⟩
theorem zjN {W : World} (hL : laidMetH Tryz.prog lst W) : PAll.LaidL W := by
 rw [MakeChecks.laidMetH_plain _ _ _ (by kernel_rfl)] at hL
 have h7 := Go.laidMet.tail (Go.laidMet.tail hL)
 refine ⟨?_⟩
 have h7' : laidMet Tryz.prog (("strings.asciiSpace", Lib.tabData .u8 Lib.asciiSpaceTab) :: [("unicode.CaseRanges", Rows.laid_unicode_CaseRanges), ("unicode/utf8.first", Rows.laid_unicode_utf8_first)]) W := by
  rw [← ziI]; exact h7
 have hT := Lib.tabIs_of_head (g := 0) (t := 223) (n := 256) (e := 5) (by kernel_rfl) (by kernel_rfl) (by kernel_rfl) (by kernel_rfl) (by kernel_rfl) (by kernel_rfl) h7'
 intro c hc
 have := hT.cell (g := 0) (by kernel_rfl) c (by rw [Lib.asciiSpaceTab_length]; exact hc)
 rw [this, zj3 c hc]
end Go.Proofs.YthgfdnffnbclpaaGreatDoor
namespace Go.Proofs.YthgfdnffnbclpaaGreatDoor
open Go.ChangeShapes Go.WideShapes Go.Deep Go.RowKit
open Go.Proofs.YthgfdnffnbclpaaGreatDoorW.PrintWords Go.Proofs.YthgfdnffnbclpaaGreatDoorW.PrintLast Go.Proofs.YthgfdnffnbclpaaGreatDoorW.PrintMore Go.Proofs.YthgfdnffnbclpaaGreatDoor.PAll
section
variable {H : Type} (enc : TypeId × Value → H) (w : World)
def OpK {α : Type} (d : Kd α) (t : TypeId) (ok : α → Prop) : Prop := ∀ n cs y, DataW.trod enc Tryz.prog w 0 (fun _ => true) true n t cs = some y → ∃ x, d.K w x cs ∧ ok x
variable {enc w}
theorem zkz {t : TypeId} {k : IntKind} (ht : Tryz.prog.underlying t = some (.int k)) : OpK enc w (Kd.int k) t (fun n => (Lit.int k n).wf = true) := fun n cs y h => by
 obtain ⟨x, hc, _, hw⟩ := DataW.trod_int ht h
 exact ⟨x, hc, hw⟩
theorem zhL {t : TypeId} (ht : Tryz.prog.underlying t = some .string) : OpK enc w Kd.string t (fun s => s.size ≤ maxLen) := fun n cs y h => by
 obtain ⟨x, hc, _, hw⟩ := DataW.trod_string ht h
 exact ⟨x, hc, hw⟩
theorem zeC {e : TypeId} {fs : Array Field} (he : Tryz.prog.underlying e = some (.struct fs)) (hone : oneCellFields Tryz.prog fs = true) (hC : Tryz.prog.cellsOf e = fs.size) {n : Nat} {cs : List Value} {y : DataW H × List MemPlace}
  (h : DataW.trod enc Tryz.prog w 0 (fun _ => true) true n e cs = some y) (hcl : cs.length = fs.size) : ∀ (j : Nat) (f : Field), fs[j]? = some f → ∃ (v : Value) (m : Nat) (z : DataW H × List MemPlace), cs[j]? = some v ∧ DataW.trod enc Tryz.prog w 0 (fun _ => true) true m f.type [v] = some z := by
 obtain ⟨ys, n', hn', hy, hlen, hyl, hf⟩ := DataW.trod_struct he h
 intro j f hj
 obtain ⟨ho, hk⟩ := hone_of hone j f hj
 have hjl : j < fs.size := (Array.getElem?_eq_some_iff.1 hj).1
 have hv : cs[j]? = some (cs[j]'(by omega)) := List.getElem?_eq_getElem (by omega)
 have h1 := hf j f hj
 rw [ho, hk] at h1
 have hone' : (cs.drop j).take 1 = [cs[j]'(by omega)] := by
  rw [List.drop_eq_getElem_cons (by omega)]
  rfl
 rw [hone'] at h1
 have hys : ys[j]? = some (ys[j]'(by omega)) := List.getElem?_eq_getElem (by omega)
 exact ⟨_, _, _, hv, h1.trans hys⟩
theorem zcf {e : TypeId} {fs : Array Field} (he : Tryz.prog.underlying e = some (.struct fs)) {n : Nat} {cs : List Value} {y : DataW H × List MemPlace} (h : DataW.trod enc Tryz.prog w 0 (fun _ => true) true n e cs = some y) : cs.length = Tryz.prog.cellsOf e := by
 obtain ⟨ys, n', hn', hy, hlen, hyl, hf⟩ := DataW.trod_struct he h
 exact hlen
end
section
variable {H : Type} {enc : TypeId × Value → H} {w : World}
theorem zlC : OpK enc w k64 87 wfV := fun n cs y h => by
 have hl : cs.length = 3 := (zcf Tryz.underlying87 h).trans (by kernel_rfl)
 have hf := zeC Tryz.underlying87 (by kernel_rfl) (by kernel_rfl) h (by rw [hl]; rfl)
 obtain ⟨v0, m0, z0, c0, t0⟩ := hf 0 _ rfl
 obtain ⟨v1, m1, z1, c1, t1⟩ := hf 1 _ rfl
 obtain ⟨v2, m2, z2, c2, t2⟩ := hf 2 _ rfl
 obtain ⟨x0, e0, _, g0⟩ := DataW.trod_int (t := 81) Tryz.underlying81 t0
 obtain ⟨x1, e1, _, g1⟩ := DataW.trod_int (t := 2) Tryz.underlying2 t1
 obtain ⟨x2, e2, _, g2⟩ := DataW.trod_string (t := 9) Tryz.underlying9 t2
 match cs, hl, c0, c1, c2 with
 | [a, b, c], _, c0, c1, c2 =>
  simp at c0 c1 c2 e0 e1 e2
  subst c0 c1 c2 e0 e1 e2
  exact ⟨⟨x0, x1, x2⟩, zhc w _, g0, g1, g2⟩
theorem zlS : OpK enc w k78 83 (fun c => c.f0.size ≤ maxLen) := fun n cs y h => by
 have hl : cs.length = 5 := (zcf Tryz.underlying83 h).trans (by kernel_rfl)
 have hf := zeC Tryz.underlying83 (by kernel_rfl) (by kernel_rfl) h (by rw [hl]; rfl)
 obtain ⟨v0, m0, z0, c0, t0⟩ := hf 0 _ rfl
 obtain ⟨v1, m1, z1, c1, t1⟩ := hf 1 _ rfl
 obtain ⟨v2, m2, z2, c2, t2⟩ := hf 2 _ rfl
 obtain ⟨v3, m3, z3, c3, t3⟩ := hf 3 _ rfl
 obtain ⟨v4, m4, z4, c4, t4⟩ := hf 4 _ rfl
 obtain ⟨x0, e0, _, g0⟩ := DataW.trod_string (t := 9) Tryz.underlying9 t0
 obtain ⟨x1, e1, _, g1⟩ := DataW.trod_int (t := 81) Tryz.underlying81 t1
 obtain ⟨x2, e2, _⟩ := DataW.trod_bool (t := 4) Tryz.underlying4 t2
 obtain ⟨x3, e3, _, g3⟩ := DataW.trod_int (t := 2) Tryz.underlying2 t3
 obtain ⟨x4, e4, _, g4⟩ := DataW.trod_int (t := 2) Tryz.underlying2 t4
 match cs, hl, c0, c1, c2, c3, c4 with
 | [a, b, c, d, e], _, c0, c1, c2, c3, c4 =>
  simp at c0 c1 c2 c3 c4 e0 e1 e2 e3 e4
  subst c0 c1 c2 c3 c4 e0 e1 e2 e3 e4
  exact ⟨⟨x0, x1, x2, x3, x4⟩, zhd w _, g0⟩
def okT (t : S49) : Prop := t.f0.size ≤ maxLen ∧ (t.f1.length ≤ maxLen ∧ ∀ c ∈ t.f1, c.f0.size ≤ maxLen) ∧ (t.f2.length ≤ maxLen ∧ ∀ key ∈ t.f2, key.length ≤ maxLen ∧ ∀ x ∈ key, (Lit.int .i64 x).wf = true) ∧
 (t.f3.length ≤ maxLen ∧ ∀ r ∈ t.f3, r.f0.length ≤ maxLen ∧ ∀ x ∈ r.f0, (Lit.int .i64 x).wf = true) ∧ (t.f4.length ≤ maxLen ∧ ∀ x ∈ t.f4, (Lit.int .i64 x).wf = true)
def zjC (row : List S64) : Prop := row.length ≤ maxLen ∧ ∀ x ∈ row, wfV x
end
end Go.Proofs.YthgfdnffnbclpaaGreatDoor
namespace Go.Proofs.YthgfdnffnbclpaaGreatDoor.PAll
theorem zfc : ∀ (a b : List Int), a.Perm b → a.Pairwise (· ≤ ·) → b.Pairwise (· ≤ ·) → a = b
 | [], b, hp, _, _ => (List.Perm.nil_eq hp)
 | x :: a, [], hp, _, _ => by have := hp.length_eq; simp at this
 | x :: a, y :: b, hp, ha, hb => by
  have h1 : x ∈ y :: b := hp.mem_iff.1 List.mem_cons_self
  have h2 : y ∈ x :: a := hp.mem_iff.2 List.mem_cons_self
  rw [List.pairwise_cons] at ha hb
  have e : x = y := by
   rcases List.mem_cons.1 h1 with e | h1
   ·exact e
   ·rcases List.mem_cons.1 h2 with e | h2
    ·exact e.symm
    ·have := hb.1 x h1; have := ha.1 y h2; omega
  subst e
  rw [zfc a b (List.Perm.cons_inv hp) ha.2 hb.2]
def Upto (cur : List Int) (i : Nat) : Prop := ∀ a b, a < i → a < b → b < cur.length → cur.getD a 0 ≤ cur.getD b 0
def zel (cur : List Int) (i j : Nat) : Prop := ∀ k, i < k → k < j → cur.getD i 0 ≤ cur.getD k 0
theorem zi5 (cur : List Int) : Upto cur 0 := fun a b h => by omega
theorem zgi (cur : List Int) (i : Nat) : zel cur i (i + 1) := fun k h1 h2 => by omega
theorem ziW {cur : List Int} {i : Nat} (h : Upto cur i) (hl : zel cur i cur.length) : Upto cur (i + 1) := fun a b h1 h2 h3 => by
 by_cases e : a = i
 ·subst e; exact hl b h2 h3
 ·exact h a b (by omega) h2 h3
theorem zhE {cur : List Int} {i j : Nat} (h : zel cur i j) (hle : ¬ cur.getD j 0 < cur.getD i 0) : zel cur i (j + 1) := fun k h1 h2 => by
 by_cases e : k = j
 ·subst e; omega
 ·exact h k h1 (by omega)
def exch (cur : List Int) (i j : Nat) : List Int := (cur.set i (cur.getD j 0)).set j (cur.getD i 0)
theorem zjV (cur : List Int) (i j : Nat) : (exch cur i j).length = cur.length := by simp [exch]
theorem zcc (cur : List Int) (i j k : Nat) (hk : k < cur.length) : (exch cur i j).getD k 0 = if k = j then cur.getD i 0 else if k = i then cur.getD j 0 else cur.getD k 0 := by
 unfold exch
 rw [List.getD_eq_getElem?_getD, List.getElem?_set]
 by_cases e : j = k
 ·subst e; simp [hk]
 ·rw [if_neg e, if_neg (fun h => e h.symm), List.getElem?_set]
  by_cases e2 : i = k
  ·subst e2; simp [hk]
  ·rw [if_neg e2, if_neg (fun h => e2 h.symm), List.getD_eq_getElem?_getD]
theorem zfu (cur : List Int) (i j : Nat) (hi : i < cur.length) (hj : j < cur.length) : (exch cur i j).Perm cur := by
 unfold exch
 rw [List.getD_eq_getElem?_getD, List.getD_eq_getElem?_getD, List.getElem?_eq_getElem hi, List.getElem?_eq_getElem hj]
 exact List.set_set_perm hi hj
theorem zja {cur : List Int} {i j : Nat} (h : Upto cur i) (hij : i < j) (hj : j < cur.length) : Upto (exch cur i j) i := fun a b h1 h2 h3 => by
 rw [zjV] at h3
 rw [zcc _ _ _ _ (by omega), zcc _ _ _ _ h3, if_neg (by omega), if_neg (by omega)]
 split
 ·exact h a i h1 h1 (by omega)
 ·split
  ·exact h a j h1 (by omega) hj
  ·exact h a b h1 h2 h3
theorem zhQ {cur : List Int} {i j : Nat} (h : zel cur i j) (hij : i < j) (hj : j < cur.length) (hlt : cur.getD j 0 < cur.getD i 0) : zel (exch cur i j) i (j + 1) := fun k h1 h2 => by
 rw [zcc _ _ _ _ (by omega), zcc _ _ _ _ (by omega), if_neg (by omega), if_pos rfl]
 split
 ·omega
 ·rw [if_neg (by omega)]
  have := h k h1 (by omega)
  omega
theorem zgu {cur : List Int} (h : Upto cur cur.length) : cur.Pairwise (· ≤ ·) := by
 rw [List.pairwise_iff_getElem]
 intro a b ha hb hab
 have := h a b ha hab hb
 rw [List.getD_eq_getElem?_getD, List.getD_eq_getElem?_getD, List.getElem?_eq_getElem ha, List.getElem?_eq_getElem hb] at this
 exact this
end Go.Proofs.YthgfdnffnbclpaaGreatDoor.PAll
namespace Go.Proofs.YthgfdnffnbclpaaGreatDoor.PAll
open Go.RowKit Go.Proofs.YthgfdnffnbclpaaGreatDoorW.PrintWords Go.Proofs.YthgfdnffnbclpaaGreatDoorW.PrintLast Go.Proofs.YthgfdnffnbclpaaGreatDoorW.PrintMore
def memP {α : Type} [DecidableEq α] (x : α) (S : List α) : Bool := S.any fun y => decide (y = x)
theorem zaQ {α : Type} [DecidableEq α] (x : α) (S : List α) : memP x S = true ↔ x ∈ S := by
 unfold memP
 rw [List.any_eq_true]
 constructor
 ·rintro ⟨y, hy, h⟩
  rw [of_decide_eq_true h] at hy
  exact hy
 ·exact fun h => ⟨x, h, decide_eq_true rfl⟩
def distP {α : Type} [DecidableEq α] : List α → List α → Bool
 | _, [] => true
 | S, x :: r => if memP x S = true then false else distP (x :: S) r
theorem zdh {P : Program} {t k e : TypeId} (ht : P.underlying t = some (.map k e)) (n : Int) (w : World) : (Instr.makeMap t (some (.int .i64 n))).run P w = .ok (.map (some w.heap.size)) (w.alloc (.map #[] 0)) := by
 simp [Instr.makeMap, run_underlying ht, Result.andThen]
 rfl
theorem zkI (w : World) : (zeroValue 4).run Tryz.prog w = .ok (.bool false) w := by kernel_rfl
set_option maxRecDepth 100000 in
theorem zcp (A : Option Addr) (c : Nat) (l : List ByteArray) (w : World) (hC : Kd.C Kd.string w A l.length l) (hc : l.length ≤ c) (hs : ∀ s ∈ l, s.size ≤ 9223372036854775807) :
  Calls Tryz.prog 64 #[.slice A l.length c] w fun e w' => e = .returned (.bool (distP [] l)) ∧ Below w.heap.size w w' := by
 have hmm := fun n w => @zdh Tryz.prog 157 9 4 Tryz.underlying157 n w
 have HC := Aside0.mk hC
 have HLEN := Aside0.mk hC.2.1
 have HS := Aside0.mk hs
 obtain ⟨B, hBd⟩ : ∃ B, B = w.heap.size := ⟨_, rfl⟩
 have HBD := Aside0.mk hBd
 clear hC hs
 go_enter Tryz.func64, Tryz.ntmps64
 go_wp2
 have hset : SetM Tryz.prog 9 boolR (w.alloc (Obj.map #[] 0)) B [] := by rw [hBd]; exact SetM.made w
 have hbel : Below w.heap.size w (w.alloc (Obj.map #[] 0)) := (Below.refl _ _).alloc (Nat.le_refl _) _
 have hsz1 : B + 1 ≤ (w.alloc (Obj.map #[] 0)).heap.size := by simp [hBd]
 generalize (w.alloc (Obj.map #[] 0)) = W1 at *
 rw [← hBd]
 have HBL := Aside0.mk hbel
 have HS1 := Aside0.mk hsz1
 have HST := Aside0.mk hset
 clear hbel hsz1 hset hBd
 go_loopg [11] l.length (fun gk v11 wx => ∃ (i : Nat) (S : List ByteArray), i + gk = l.length ∧ v11 = .int .i64 i ∧ Aside0 (S.length = i) ∧ Aside0 (SetM Tryz.prog 9 boolR wx B (S.map Value.string)) ∧ Aside0 (Below w.heap.size w wx) ∧ Aside0 (B + 1 ≤ wx.heap.size) ∧ Aside0 (distP [] l = distP S (l.drop i)))
 case atStart => exact ⟨0, [], by omega, rfl, ⟨rfl⟩, HST, HBL, HS1, ⟨by simp⟩⟩
 case round =>
  obtain ⟨i, S, hi, rfl, HSL, HM, HW, HSZ, HD⟩ := hrel
  cases gk with
  | zero =>
   have e : l.drop i = [] := List.drop_eq_nil_of_le (by omega)
   have hD := HD.out
   rw [e] at hD
   have hii : ¬ (i : Int) < (l.length : Int) := by omega
   go_wp2
   go_ret
   exact ⟨by first | rfl | (rw [hD]; rfl), HW.out⟩
  | succ gk =>
   have hlt : i < l.length := by omega
   have hii : (i : Int) < (l.length : Int) := by omega
   have hi0 : (0 : Int) ≤ (i : Int) := by omega
   have hdr : l.drop i = l[i] :: l.drop (i + 1) := List.drop_eq_getElem_cons hlt
   have hrd : rdOf ByteArray.empty l (i : Int) = l[i] := by unfold rdOf; simp [List.getD, hlt]
   obtain ⟨ad, hA, hx0⟩ := Kd.at_string HC.out (i : Int) hi0 hii
   cases hA
   rw [hrd, Int.toNat_natCast] at hx0
   have hr0 := (HW.out.cell (World.block_lt_of_cell? w _ hx0)).trans hx0
   have hD := HD.out
   rw [hdr, distP] at hD
   have hsx := HS.out l[i] (List.getElem_mem hlt)
   generalize hx : l[i] = x at *
   have hkey : keyOf Tryz.prog 9 (.string x) = some (.string x.data.toList) := WideMaps.keyOf_string_mk Tryz.underlying9 hsx
   have hmem : (Value.string x ∈ S.map Value.string) ↔ x ∈ S := by simp
   have hlook : (Instr.lookup 157 (.map (some B)) (.string x) false).run Tryz.prog wr = .ok (.bool (memP x S)) wr :=
    HM.out.look_bool (Maps.string_keyed Tryz.underlying9) Tryz.underlying157 (zkI _) hkey _ (by rw [hmem]; exact zaQ x S)
   by_cases hin : memP x S = true
   ·rw [if_pos hin] at hD
    rw [hin] at hlook
    go_wp2_with (at_lookup; refine zaA _ rfl _ _ _ _ rfl rfl rfl hlook ?_)
    go_ret
    exact ⟨by first | rfl | (rw [hD]; rfl), HW.out⟩
   ·rw [if_neg hin] at hD
    rw [Bool.not_eq_true] at hin
    rw [hin] at hlook
    obtain ⟨w', hrun, hset', hturn⟩ := HM.out.store (Maps.string_keyed Tryz.underlying9) Tryz.underlying157 (by rw [List.length_map, HSL.out]; have := HLEN.out; show i < 9223372036854775807; omega) (val := .bool true) (d := .lit (.bool true)) (ps := []) hkey rfl
    have hg := hturn.grown
    have hbel' : Below w.heap.size w w' := HW.out.grown hg HW.out.size (fun j hj => by cases hj; rw [← HBD.out]; exact Nat.le_refl _)
    have hsz' : B + 1 ≤ w'.heap.size := by have := hg.size; have := HSZ.out; omega
    go_wp2_with (first | (at_lookup; refine zaA _ rfl _ _ _ _ rfl rfl rfl hlook ?_) | (at_mapUpdate; refine zaS _ rfl _ _ _ _ rfl rfl rfl rfl hrun ?_))
    go_roundg gk
    case measure => omega
    case rel => exact ⟨i + 1, x :: S, by omega, by first | rfl | (simp; done) | (have := HLEN.out; simp; unfold wrap64; omega), ⟨by rw [List.length_cons, HSL.out]⟩, ⟨by simpa using hset'⟩, ⟨hbel'⟩, ⟨hsz'⟩, ⟨hD⟩⟩
set_option maxRecDepth 100000 in
theorem zc5 (A : Option Addr) (c : Nat) (l : List Int) (w : World) (hC : Kd.C (Kd.int .i64) w A l.length l) (hc : l.length ≤ c) (hs : ∀ s ∈ l, (Lit.int .i64 s).wf = true) :
  Calls Tryz.prog 116 #[.slice A l.length c] w fun e w' => e = .returned (.bool (distP [] l)) ∧ Below w.heap.size w w' := by
 have hmm := fun n w => @zdh Tryz.prog 207 3 4 Tryz.underlying207 n w
 have HC := Aside0.mk hC
 have HLEN := Aside0.mk hC.2.1
 have HS := Aside0.mk hs
 obtain ⟨B, hBd⟩ : ∃ B, B = w.heap.size := ⟨_, rfl⟩
 have HBD := Aside0.mk hBd
 clear hC hs
 go_enter Tryz.func116, Tryz.ntmps116
 go_wp2
 have hset : SetM Tryz.prog 3 boolR (w.alloc (Obj.map #[] 0)) B [] := by rw [hBd]; exact SetM.made w
 have hbel : Below w.heap.size w (w.alloc (Obj.map #[] 0)) := (Below.refl _ _).alloc (Nat.le_refl _) _
 have hsz1 : B + 1 ≤ (w.alloc (Obj.map #[] 0)).heap.size := by simp [hBd]
 generalize (w.alloc (Obj.map #[] 0)) = W1 at *
 rw [← hBd]
 have HBL := Aside0.mk hbel
 have HS1 := Aside0.mk hsz1
 have HST := Aside0.mk hset
 clear hbel hsz1 hset hBd
 go_loopg [11] l.length (fun gk v11 wx => ∃ (i : Nat) (S : List Int), i + gk = l.length ∧ v11 = .int .i64 i ∧ Aside0 (S.length = i) ∧ Aside0 (SetM Tryz.prog 3 boolR wx B (S.map (Value.int .i64))) ∧ Aside0 (Below w.heap.size w wx) ∧ Aside0 (B + 1 ≤ wx.heap.size) ∧ Aside0 (distP [] l = distP S (l.drop i)))
 case atStart => exact ⟨0, [], by omega, rfl, ⟨rfl⟩, HST, HBL, HS1, ⟨by simp⟩⟩
 case round =>
  obtain ⟨i, S, hi, rfl, HSL, HM, HW, HSZ, HD⟩ := hrel
  cases gk with
  | zero =>
   have e : l.drop i = [] := List.drop_eq_nil_of_le (by omega)
   have hD := HD.out
   rw [e] at hD
   have hii : ¬ (i : Int) < (l.length : Int) := by omega
   go_wp2
   go_ret
   exact ⟨by first | rfl | (rw [hD]; rfl), HW.out⟩
  | succ gk =>
   have hlt : i < l.length := by omega
   have hii : (i : Int) < (l.length : Int) := by omega
   have hi0 : (0 : Int) ≤ (i : Int) := by omega
   have hdr : l.drop i = l[i] :: l.drop (i + 1) := List.drop_eq_getElem_cons hlt
   have hrd : rd l (i : Int) = l[i] := by unfold rd; simp [List.getD, hlt]
   obtain ⟨ad, hA, hx0⟩ := Kd.at_int HC.out (i : Int) hi0 hii
   cases hA
   rw [hrd, Int.toNat_natCast] at hx0
   have hr0 := (HW.out.cell (World.block_lt_of_cell? w _ hx0)).trans hx0
   have hD := HD.out
   rw [hdr, distP] at hD
   have hsx := HS.out l[i] (List.getElem_mem hlt)
   generalize hx : l[i] = x at *
   have hkey : keyOf Tryz.prog 3 (.int .i64 x) = some (.int .i64 x) := Maps.keyOf_int_mk Tryz.underlying3 hsx
   have hmem : ((Value.int .i64) x ∈ S.map (Value.int .i64)) ↔ x ∈ S := by simp
   have hlook : (Instr.lookup 207 (.map (some B)) (.int .i64 x) false).run Tryz.prog wr = .ok (.bool (memP x S)) wr :=
    HM.out.look_bool (Maps.int_keyed Tryz.underlying3) Tryz.underlying207 (zkI _) hkey _ (by rw [hmem]; exact zaQ x S)
   by_cases hin : memP x S = true
   ·rw [if_pos hin] at hD
    rw [hin] at hlook
    go_wp2_with (at_lookup; refine zaA _ rfl _ _ _ _ rfl rfl rfl hlook ?_)
    go_ret
    exact ⟨by first | rfl | (rw [hD]; rfl), HW.out⟩
   ·rw [if_neg hin] at hD
    rw [Bool.not_eq_true] at hin
    rw [hin] at hlook
    obtain ⟨w', hrun, hset', hturn⟩ := HM.out.store (Maps.int_keyed Tryz.underlying3) Tryz.underlying207 (by rw [List.length_map, HSL.out]; have := HLEN.out; show i < 9223372036854775807; omega) (val := .bool true) (d := .lit (.bool true)) (ps := []) hkey rfl
    have hg := hturn.grown
    have hbel' : Below w.heap.size w w' := HW.out.grown hg HW.out.size (fun j hj => by cases hj; rw [← HBD.out]; exact Nat.le_refl _)
    have hsz' : B + 1 ≤ w'.heap.size := by have := hg.size; have := HSZ.out; omega
    go_wp2_with (first | (at_lookup; refine zaA _ rfl _ _ _ _ rfl rfl rfl hlook ?_) | (at_mapUpdate; refine zaS _ rfl _ _ _ _ rfl rfl rfl rfl hrun ?_))
    go_roundg gk
    case measure => omega
    case rel => exact ⟨i + 1, x :: S, by omega, by first | rfl | (simp; done) | (have := HLEN.out; simp; unfold wrap64; omega), ⟨by rw [List.length_cons, HSL.out]⟩, ⟨by simpa using hset'⟩, ⟨hbel'⟩, ⟨hsz'⟩, ⟨hD⟩⟩
instance : DecidableEq S64 := fun x y => decidable_of_iff (x.f0 = y.f0 ∧ x.f1 = y.f1 ∧ x.f2 = y.f2)
 ⟨fun ⟨a, b, c⟩ => by cases x; cases y; cases a; cases b; cases c; rfl, fun h => by cases h; exact ⟨rfl, rfl, rfl⟩⟩
def tupV (t : List S64) : Value := .agg (tupC t).toArray
theorem zh3 {x y : S64} (h : zaM x = zaM y) : x = y := by
 unfold zaM at h
 cases x; cases y
 simp at h
 obtain ⟨rfl, rfl, rfl⟩ := h
 rfl
theorem zhm : ∀ {s t : List S64}, tupC s = tupC t → s = t
 | [], [], _ => rfl
 | [], y :: t, h => by have := congrArg List.length h; rw [zaF, zaF] at this; simp at this
 | x :: s, [], h => by have := congrArg List.length h; rw [zaF, zaF] at this; simp at this
 | x :: s, y :: t, h => by
  have e : ∀ (z : S64) (u : List S64), tupC (z :: u) = zaM z ++ tupC u := fun z u => by simp [tupC]
  rw [e, e] at h
  obtain ⟨h1, h2⟩ := List.append_inj h rfl
  rw [zh3 h1, zhm h2]
theorem zg8 (t : List S64) (S : List (List S64)) : tupV t ∈ S.map tupV ↔ t ∈ S := by
 constructor
 ·intro h
  obtain ⟨u, hu, e⟩ := List.mem_map.1 h
  unfold tupV at e
  have : tupC u = tupC t := by simpa using e
  rw [← zhm this]; exact hu
 ·exact fun h => List.mem_map_of_mem h
def zb1 (key : List Int) : List (List S64) → List (List S64) → Option Bool
 | [], _ => some true
 | row :: r, S => (zbG row 0 key tup0).bind fun x => if (x.2 && memP x.1 S) = true then some false else zb1 key r (if x.2 = true then x.1 :: S else S)
def zep (rows : List (List S64)) : List (List Int) → Option Bool
 | [] => some true
 | k :: r => (zb1 k rows []).bind fun b => if b = true then zep rows r else some false
theorem zcC : ∀ (cols : List Int) (row : List S64) (i : Nat) (t u : List S64) (b : Bool), zbG row i cols t = some (u, b) → u.length = t.length
 | [], _, _, _, _, _, h => by simp [zbG] at h; rw [h.1]
 | c :: r, row, i, t, u, b, h => by
  rw [zbG] at h
  split at h
  ·split at h
   ·simp at h; rw [← h.1]; simp
   ·rw [zcC r row _ _ u b h]; simp
  ·cases h
theorem zdy : ∀ (cols : List Int) (row : List S64) (i : Nat) (t u : List S64) (b : Bool), zbG row i cols t = some (u, b) → (∀ x ∈ row, wfV x) → (∀ x ∈ t, wfV x) → ∀ x ∈ u, wfV x
 | [], _, _, _, _, _, h, _, ht => by simp [zbG] at h; rw [← h.1]; exact ht
 | c :: r, row, i, t, u, b, h, hr, ht => by
  rw [zbG] at h
  split at h
  ·rename_i hc
   have hm : rd_T64 row c ∈ row := by
    unfold rd_T64
    have : c.toNat < row.length := by omega
    rw [List.getD_eq_getElem?_getD, List.getElem?_eq_getElem this]
    exact List.getElem_mem this
   have hset : ∀ x ∈ t.set i (rd_T64 row c), wfV x := by
    intro x hx
    rcases List.mem_or_eq_of_mem_set hx with h1 | h1
    ·exact ht x h1
    ·rw [h1]; exact hr _ hm
   split at h
   ·simp at h; rw [← h.1]; exact hset
   ·exact zdy r row _ _ u b h hr hset
  ·cases h
theorem zgV : ∀ x ∈ tup0, wfV x := by
 intro x hx
 unfold tup0 at hx
 rw [List.eq_of_mem_replicate hx]
 exact ⟨by decide, by decide, by decide⟩
def zObj : Obj := .cells #[Value.int IntKind.u8 0, Value.int IntKind.i64 0, Value.string ⟨#[]⟩, Value.int IntKind.u8 0, Value.int IntKind.i64 0, Value.string ⟨#[]⟩, Value.int IntKind.u8 0, Value.int IntKind.i64 0, Value.string ⟨#[]⟩, Value.int IntKind.u8 0, Value.int IntKind.i64 0, Value.string ⟨#[]⟩, Value.int IntKind.u8 0, Value.int IntKind.i64 0, Value.string ⟨#[]⟩, Value.int IntKind.u8 0, Value.int IntKind.i64 0, Value.string ⟨#[]⟩, Value.int IntKind.u8 0, Value.int IntKind.i64 0, Value.string ⟨#[]⟩, Value.int IntKind.u8 0, Value.int IntKind.i64 0, Value.string ⟨#[]⟩] 170
theorem zc9 (w1 : World) : TB (w1.alloc zObj) w1.heap.size tup0 := by
 refine ⟨World.rowIs_alloc w1 (tupC tup0).toArray 170 _ (fun j hj => ?_), rfl⟩
 unfold tupF
 have : j < (tupC tup0).length := by simpa using hj
 rw [List.getElem?_toArray, List.getElem?_eq_getElem this]
 rfl
theorem TB.put {w : World} {B : Nat} {t u : List S64} (h : TB w B t) (h8 : u.length = 8) : TB (w.setCells B 0 (tupC u)) B u := by
 refine ⟨(Go.rowIs_setCells (tupC u) 0 w _ h.1).congr (fun j hj => ?_), h8⟩
 have hl := zaF u
 rw [if_pos (by omega)]
 rfl
def tupW (w1 : World) (t : List S64) : World := (w1.alloc zObj).setCells w1.heap.size 0 (tupC t)
theorem zd8 (w1 : World) (t : List S64) (h8 : t.length = 8) : TB (tupW w1 t) w1.heap.size t := (zc9 w1).put h8
theorem zdY (w1 : World) (t : List S64) (b : Nat) (hb : b < w1.heap.size) : (tupW w1 t).heap[b]? = w1.heap[b]? := by
 unfold tupW
 rw [World.heap_setCells_other _ _ _ _ (by simp; omega) (by omega)]
 exact Go.Deep.blk_alloc_lt _ _ _ hb
theorem zdc {B0 : Nat} {w0 w1 : World} (t : List S64) (h : Below B0 w0 w1) (hB : B0 ≤ w1.heap.size) : Below B0 w0 (tupW w1 t) :=
 Go.below_setCells hB _ _ _ (h.alloc hB _)
theorem zkZ (w : World) : (zeroValue 173).run Tryz.prog w = .ok (.agg #[]) w := by kernel_rfl
set_option maxHeartbeats 4000000 in
set_option maxRecDepth 100000 in
theorem zcQ (a0 : ByteArray) (A1 : Option Addr) (c1 n1 : Nat) (A2 : Option Addr) (c2 : Nat) (keys : List (List Int)) (A3 : Option Addr) (c3 n3 : Nat) (A4 : Option Addr) (c4 n4 : Nat) (A : Option Addr) (c : Nat) (rows : List (List S64)) (r : Bool) (w : World)
  (hK : Kd.C (Kd.slice 3 (Kd.int .i64)) w A2 keys.length keys) (hk2 : keys.length ≤ c2) (hR : Kd.C (Kd.slice 87 k64) w A rows.length rows) (hrc : rows.length ≤ c) (hwf : ∀ row ∈ rows, ∀ x ∈ row, wfV x) (h : zep rows keys = some r) :
  Calls Tryz.prog 72 #[.agg #[.string a0, .slice A1 n1 c1, .slice A2 keys.length c2, .slice A3 n3 c3, .slice A4 n4 c4], .slice A rows.length c] w fun e w' => e = .returned (.bool r) ∧ Below w.heap.size w w' := by
 have hmm := @run_makeMap Tryz.prog
 have HK := Aside0.mk hK
 have HRW := Aside0.mk hR
 have HWF := Aside0.mk hwf
 have HH := Aside0.mk h
 clear hK hR hwf h
 go_enter Tryz.func72, Tryz.ntmps72
 go_wp2
 generalize hW1 : (w.alloc _) = W1
 have HBL : Aside0 (Below w.heap.size w W1) := ⟨by rw [← hW1]; exact (Below.refl _ _).alloc (Nat.le_refl _) _⟩
 clear hW1
 go_loopg [17] keys.length (fun gk v17 wx => ∃ (i : Nat), i + gk = keys.length ∧ v17 = .int .i64 i ∧ Aside0 (Below w.heap.size w wx) ∧ Aside0 (zep rows (keys.drop i) = some r))
 case atStart => exact ⟨0, by omega, rfl, HBL, HH⟩
 case round =>
  clear HBL HH
  obtain ⟨i, hi, rfl, HW, HP⟩ := hrel
  cases gk with
  | zero =>
   have e : keys.drop i = [] := List.drop_eq_nil_of_le (by omega)
   have hp := HP.out
   rw [e] at hp
   simp only [zep, Option.some.injEq] at hp
   subst hp
   have hii : ¬ (i : Int) < (keys.length : Int) := by omega
   go_wp2
   go_ret
   exact ⟨by first | rfl | (simp; done), HW.out⟩
  | succ g1 =>
   have hlt : i < keys.length := by omega
   have hii : (i : Int) < (keys.length : Int) := by omega
   have hi0 : (0 : Int) ≤ (i : Int) := by omega
   have hdr : keys.drop i = keys[i] :: keys.drop (i + 1) := List.drop_eq_getElem_cons hlt
   have hrd : rd_L6 keys (i : Int) = keys[i] := by unfold rd_L6; simp [List.getD, hlt]
   obtain ⟨ad2, Ak, ck, hA2, hx2, hck, hCk⟩ := zcJ HK.out (i : Int) hi0 hii
   cases hA2
   rw [hrd] at hx2 hck hCk
   rw [Int.toNat_natCast] at hx2
   have hr2 := (HW.out.cell (World.block_lt_of_cell? w _ hx2)).trans hx2
   have hp := HP.out
   rw [hdr, zep] at hp
   have HP2 := Aside0.mk hp
   clear hp HP
   have HCK := Aside0.mk hCk
   clear hCk hx2
   generalize keys[i] = key at *
   go_wp2
   obtain ⟨Bm, hBm⟩ : ∃ b, b = wr.heap.size := ⟨_, rfl⟩
   obtain ⟨W2, hW2⟩ : ∃ W, W = wr.alloc (Obj.map #[] 0) := ⟨_, rfl⟩
   have HS0 : Aside0 (SetM Tryz.prog 170 unitElem W2 Bm []) := ⟨by rw [hW2, hBm]; exact SetM.made wr⟩
   have HB0 : Aside0 (Below w.heap.size w W2) := ⟨by rw [hW2]; exact HW.out.alloc HW.out.size _⟩
   have HZ0 : Aside0 (Bm + 1 ≤ W2.heap.size) := ⟨by rw [hW2, hBm]; simp⟩
   have HBW : Aside0 (w.heap.size ≤ Bm) := ⟨by rw [hBm]; exact HW.out.size⟩
   rw [← hW2, ← hBm]
   clear hBm hW2
   go_loopg [24] rows.length (fun gj v24 wx => ∃ (j : Nat) (S : List (List S64)), j + gj = rows.length ∧ v24 = .int .i64 j ∧ Aside0 (S.length ≤ j) ∧ Aside0 (SetM Tryz.prog 170 unitElem wx Bm (S.map tupV)) ∧ Aside0 (Below w.heap.size w wx) ∧ Aside0 (Bm + 1 ≤ wx.heap.size) ∧
    Aside0 ((zb1 key (rows.drop j) S).bind (fun b => if b = true then zep rows (keys.drop (i + 1)) else some false) = some r))
   case atStart => exact ⟨0, [], by omega, rfl, ⟨Nat.le_refl _⟩, HS0, HB0, HZ0, HP2⟩
   case round =>
    clear HS0 HB0 HZ0 HP2 HW
    obtain ⟨j, S, hj, rfl, HSL, HM, HW, HSZ, HP⟩ := hrel
    cases gk with
    | zero =>
     have e : rows.drop j = [] := List.drop_eq_nil_of_le (by omega)
     have hp := HP.out
     rw [e] at hp
     simp only [zb1, Option.bind_some, if_true] at hp
     have hjj : ¬ (j : Int) < (rows.length : Int) := by omega
     go_wp2
     go_roundg g1
     case measure => omega
     case rel => exact ⟨i + 1, by omega, by first | rfl | (simp; done) | (have := HK.out.2.1; simp; unfold wrap64; omega), HW, ⟨hp⟩⟩
    | succ g2 =>
     have hjlt : j < rows.length := by omega
     have hjj : (j : Int) < (rows.length : Int) := by omega
     have hj0 : (0 : Int) ≤ (j : Int) := by omega
     have hdrj : rows.drop j = rows[j] :: rows.drop (j + 1) := List.drop_eq_getElem_cons hjlt
     have hrdj : rd_L12 rows (j : Int) = rows[j] := by unfold rd_L12; simp [List.getD, hjlt]
     obtain ⟨adr, Ar, cr, hAr, hxr, hcr, hCr⟩ := zbu HRW.out (j : Int) hj0 hjj
     cases hAr
     rw [hrdj] at hxr hcr hCr
     rw [Int.toNat_natCast] at hxr
     have hr3 := (HW.out.cell (World.block_lt_of_cell? w _ hxr)).trans hxr
     have hwr := HWF.out rows[j] (List.getElem_mem hjlt)
     have hp := HP.out
     rw [hdrj, zb1] at hp
     generalize rows[j] = row at *
     cases hpk : zbG row 0 key tup0 with
     | none => rw [hpk] at hp; simp at hp
     | some x =>
      obtain ⟨t, full⟩ := x
      rw [hpk] at hp
      simp only [Option.bind_some] at hp
      have h8 : t.length = 8 := by rw [zcC _ _ _ _ _ _ hpk]; rfl
      have hwt := zdy _ _ _ _ _ _ hpk hwr zgV
      obtain ⟨kl, hkey⟩ := zgt t h8 hwt
      have hkey' : keyOf Tryz.prog 170 (tupV t) = some kl := hkey
      have HPK := Aside0.mk (zd7 Ar cr row Ak ck key t full wr (Kd.C_below hCr HW.out) hcr (Kd.C_below HCK.out HW.out) hck hpk)
      have HCR := Aside0.mk hCr
      clear hCr hxr hwr hwt hpk
      have hz : (Tryz.prog.info? 170).map (·.size) = some (tupC t).length := by rw [zaF, h8]; kernel_rfl
      have hza : (Tryz.prog.info? 170).map (·.size) = some (tupC t).toArray.size := by rw [List.size_toArray]; exact hz
      have hone : (tupC t).toArray.all (·.oneCell') = true := zcy t
      have hth : ∀ w1 : World, (w1.alloc zObj).there w1.heap.size 0 (tupC t).toArray.size := fun w1 => (zc9 w1).there 0 _ (by rw [List.size_toArray, zaF, h8]; omega)
      have hBm : Bm < wr.heap.size := by have := HSZ.out; omega
      have FW : ∀ w1, Below wr.heap.size wr w1 → TB (tupW w1 t) w1.heap.size t ∧ SetM Tryz.prog 170 unitElem (tupW w1 t) Bm (S.map tupV) ∧ Below w.heap.size w (tupW w1 t) ∧ Bm + 1 ≤ (tupW w1 t).heap.size := by
       intro w1 hb1
       have hs1 := hb1.size
       have hbw : Below w.heap.size w w1 := below_step HW.out hb1
       refine ⟨zd8 w1 t h8, HM.out.kept ?_, zdc t hbw hbw.size, ?_⟩
       ·rw [zdY w1 t Bm (by omega)]
        exact hb1.block Bm hBm
       ·have := (zd8 w1 t h8).1.lt
        omega
      have FL : ∀ W5, SetM Tryz.prog 170 unitElem W5 Bm (S.map tupV) → (Instr.lookup 168 (.map (some Bm)) (tupV t) true).run Tryz.prog W5 = .ok (.tuple #[.agg #[], .bool (memP t S)]) W5 := fun W5 h5 =>
       h5.look_unit zjF Tryz.underlying168 (zkZ _) hkey' _ (by rw [zg8]; exact zaQ t S)
      have FS : ∀ W6, SetM Tryz.prog 170 unitElem W6 Bm (S.map tupV) → Below w.heap.size w W6 → Bm + 1 ≤ W6.heap.size → ∃ w7, (Instr.mapUpdate 168 (.map (some Bm)) (tupV t) (.agg #[])).run Tryz.prog W6 = .ok () w7 ∧ SetM Tryz.prog 170 unitElem w7 Bm ((t :: S).map tupV) ∧ Below w.heap.size w w7 ∧ Bm + 1 ≤ w7.heap.size := by
       intro W6 h6 hb6 hs6
       obtain ⟨w7, hrun, hset, hturn⟩ := h6.store zjF Tryz.underlying168 (by rw [List.length_map]; have := HSL.out; have := HRW.out.2.1; show S.length < 9223372036854775807; omega) (val := .agg #[]) hkey' unitElem_mk
       have hg := hturn.grown
       exact ⟨w7, hrun, hset, hb6.grown hg hb6.size (fun k hk => by cases hk; exact HBW.out), by have := hg.size; omega⟩
      cases full with
      | true =>
       cases hm : memP t S with
       | true =>
        rw [hm] at hp FL
        simp only [Bool.and_self, if_true, Option.bind_some] at hp
        rw [if_neg (by decide)] at hp
        obtain rfl := Option.some.inj hp
        go_wp2_with (first
         | (go_at_call 125; refine HPK.out.mono ?_; rintro e w1 ⟨rfl, hb1⟩; obtain ⟨F1, F2, F3, F4⟩ := FW w1 hb1; have hth1 := hth w1)
         | (refine wpList_store_mid rfl 170 (.tmp 10) _ rfl w1.heap.size 0 (tupC t).toArray rfl rfl hth1 hza hone ?_; change wpList _ _ _ _ _ (tupW w1 t); have F0 := FL _ F2; clear hth1 hb1; generalize tupW w1 t = W5 at *; generalize w1.heap.size = Bt at *)
         | (refine wpList_load_mid rfl 170 (.tmp 10) rfl Bt 0 rfl (tupC t) _ F1.range Tryz.underlying170 rfl hz ?_)
         | (at_lookup; refine zaA _ rfl _ _ _ _ rfl rfl rfl F0 ?_))
        go_ret
        exact ⟨by first | rfl | (simp; done), F3.alloc F3.size _⟩
       | false =>
        rw [hm] at hp FL
        simp only [Bool.and_false, if_true] at hp
        rw [if_neg (by decide)] at hp
        have HP3 := Aside0.mk hp
        clear hp
        go_wp2_with (first
         | (go_at_call 125; refine HPK.out.mono ?_; rintro e w1 ⟨rfl, hb1⟩; obtain ⟨F1, F2, F3, F4⟩ := FW w1 hb1; have hth1 := hth w1)
         | (refine wpList_store_mid rfl 170 (.tmp 10) _ rfl w1.heap.size 0 (tupC t).toArray rfl rfl hth1 hza hone ?_; change wpList _ _ _ _ _ (tupW w1 t); have F0 := FL _ F2; clear hth1 hb1; generalize tupW w1 t = W5 at *; generalize w1.heap.size = Bt at *)
         | (refine wpList_load_mid rfl 170 (.tmp 10) rfl Bt 0 rfl (tupC t) _ F1.range Tryz.underlying170 rfl hz ?_)
         | (at_lookup; refine zaA _ rfl _ _ _ _ rfl rfl rfl F0 ?_)
         | (refine wpList_load_mid rfl 170 (.tmp 10) rfl Bt 0 rfl (tupC t) _ (TB.range ⟨F1.1.alloc _, F1.2⟩) Tryz.underlying170 rfl hz ?_)
         | (at_mapUpdate; obtain ⟨w7, hrun, G2, G3, G4⟩ := FS _ (F2.kept (Go.Deep.blk_alloc_lt _ _ _ (by omega))) (F3.alloc F3.size _) (by simp; omega); refine zaS _ rfl _ _ _ _ rfl rfl rfl rfl hrun ?_))
        go_roundg g2
        case measure => omega
        case rel => exact ⟨j + 1, t :: S, by omega, by first | rfl | (simp; done) | (have := HRW.out.2.1; simp; unfold wrap64; omega), ⟨by rw [List.length_cons]; have := HSL.out; omega⟩, ⟨G2⟩, ⟨G3⟩, ⟨G4⟩, HP3⟩
      | false =>
       cases hm : memP t S with
       | true =>
        rw [hm] at FL
        simp only [Bool.false_and] at hp
        rw [if_neg (by decide), if_neg (by decide)] at hp
        have HP3 := Aside0.mk hp
        clear hp
        go_wp2_with (first
         | (go_at_call 125; refine HPK.out.mono ?_; rintro e w1 ⟨rfl, hb1⟩; obtain ⟨F1, F2, F3, F4⟩ := FW w1 hb1; have hth1 := hth w1)
         | (refine wpList_store_mid rfl 170 (.tmp 10) _ rfl w1.heap.size 0 (tupC t).toArray rfl rfl hth1 hza hone ?_; change wpList _ _ _ _ _ (tupW w1 t); have F0 := FL _ F2; clear hth1 hb1; generalize tupW w1 t = W5 at *; generalize w1.heap.size = Bt at *)
         | (refine wpList_load_mid rfl 170 (.tmp 10) rfl Bt 0 rfl (tupC t) _ F1.range Tryz.underlying170 rfl hz ?_)
         | (at_lookup; refine zaA _ rfl _ _ _ _ rfl rfl rfl F0 ?_))
        go_roundg g2
        case measure => omega
        case rel => exact ⟨j + 1, S, by omega, by first | rfl | (simp; done) | (have := HRW.out.2.1; simp; unfold wrap64; omega), ⟨by have := HSL.out; omega⟩, ⟨F2.kept (Go.Deep.blk_alloc_lt _ _ _ (by omega))⟩, ⟨F3.alloc F3.size _⟩, ⟨by simp; omega⟩, HP3⟩
       | false =>
        rw [hm] at FL
        simp only [Bool.false_and] at hp
        rw [if_neg (by decide), if_neg (by decide)] at hp
        have HP3 := Aside0.mk hp
        clear hp
        go_wp2_with (first
         | (go_at_call 125; refine HPK.out.mono ?_; rintro e w1 ⟨rfl, hb1⟩; obtain ⟨F1, F2, F3, F4⟩ := FW w1 hb1; have hth1 := hth w1)
         | (refine wpList_store_mid rfl 170 (.tmp 10) _ rfl w1.heap.size 0 (tupC t).toArray rfl rfl hth1 hza hone ?_; change wpList _ _ _ _ _ (tupW w1 t); have F0 := FL _ F2; clear hth1 hb1; generalize tupW w1 t = W5 at *; generalize w1.heap.size = Bt at *)
         | (refine wpList_load_mid rfl 170 (.tmp 10) rfl Bt 0 rfl (tupC t) _ F1.range Tryz.underlying170 rfl hz ?_)
         | (at_lookup; refine zaA _ rfl _ _ _ _ rfl rfl rfl F0 ?_))
        go_roundg g2
        case measure => omega
        case rel => exact ⟨j + 1, S, by omega, by first | rfl | (simp; done) | (have := HRW.out.2.1; simp; unfold wrap64; omega), ⟨by have := HSL.out; omega⟩, ⟨F2.kept (Go.Deep.blk_alloc_lt _ _ _ (by omega))⟩, ⟨F3.alloc F3.size _⟩, ⟨by simp; omega⟩, HP3⟩
end Go.Proofs.YthgfdnffnbclpaaGreatDoor.PAll
