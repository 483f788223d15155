import Derived.Test.YthgfdnffnbclpaaGreatDoorSQG05
import Derived.Test.YthgfdnffnbclpaaGreatDoorSQG03
import Derived.Lib.ConvBytes
import Derived.Laws.IdiomStrings
set_option linter.unusedVariables false
set_option linter.unusedSimpArgs false
namespace Go.Proofs.YthgfdnffnbclpaaGreatDoor.PAll
open Go.RowKit Go.Shelf Go.Proofs.YthgfdnffnbclpaaGreatDoorW.PrintWords Go.Proofs.YthgfdnffnbclpaaGreatDoorW.PrintLast Go.Proofs.YthgfdnffnbclpaaGreatDoorW.PrintMore
attribute [local go_sem] Oper.semAt_some
theorem cell_new_b (W : World) (v : Value) (t : TypeId) : (W.alloc (.cells #[v] t)).cell? ⟨W.heap.size, 0, none⟩ = some v ∧ (W.alloc (.cells #[v] t)).frozen? ⟨W.heap.size, 0, none⟩ = false := by
 have h := World.alloc_heap_new W (.cells #[v] t)
 exact ⟨by unfold World.cell?; rw [h]; rfl, by unfold World.frozen?; rw [h]; rfl⟩
theorem cell_alloc_b {W : World} {a : Addr} {v : Value} (o : Obj) (h : W.cell? a = some v) : (W.alloc o).cell? a = some v := Go.cell_kept h (World.grownBy_alloc W o none) (fun r e => by cases e)
theorem frozen_alloc_b {W : World} {a : Addr} {v : Value} (o : Obj) (h : W.cell? a = some v) (hf : W.frozen? a = false) : (W.alloc o).frozen? a = false := (Go.frozen_kept h (World.grownBy_alloc W o none) (fun r e => by cases e)).trans hf
theorem KpF.t {n₀ Bs : Nat} {A B C : World} (h : KpF n₀ Bs A B) (k : KpF n₀ Bs B C) : KpF n₀ Bs A C := h.trans k
theorem KpF.b {n₀ Bs : Nat} {w : World} (h : n₀ ≤ w.heap.size) (hb : Bs < w.heap.size) : ∀ (W : World) (l : Nat) (o o' : Obj), w.heap.size ≤ l → W.heap[l]? = some o → o.isCells = false → o.isWalk = false → KpF n₀ Bs W (W.putObj l o') :=
 fun W l o o' hl ho hc hw => ⟨belowK_b h W l o o' hl ho hc hw, (grownBy_putObj' W l o').block Bs (by
  rcases Nat.lt_or_ge l W.heap.size with h1 | h1
  ·omega
  ·simp [Array.getElem?_eq_none h1] at ho) (fun e => by cases e; omega)⟩
theorem fields_stops (F : Fence) (n : Nat) (h54 : F.fn 175) (hro : F.round = none) (hn : 1 ≤ n) (Bs n₀ : Nat) (s : ByteArray) (hasc : ∀ b ∈ s.data.toList, b.toNat < 128) (hsz : s.size ≤ 4294967296) (w : World) (hB : Bs < w.heap.size) (hn₀ : n₀ ≤ w.heap.size) (h0n : 0 < n₀)
  (hc : w.cell? ⟨Bs, 0, none⟩ = some (.string s)) (hT : ∀ c : Nat, c < 256 → w.cell? ⟨0, c, none⟩ = some (.int .u8 (if c = 9 ∨ c = 10 ∨ c = 11 ∨ c = 12 ∨ c = 13 ∨ c = 32 then 1 else 0))) :
  SeqStopsK F n Tryz.prog 175 #[.pointer (some ⟨Bs, 0, none⟩)] (fun x : ByteArray => #[Value.string x]) (KpF n₀ Bs) (fun ys => ys = pieces s) (fun pre => pre <+: pieces s) (s.size + 1) w := fun l J Jx W hW _ _ hY h0 =>
 fields1_in F n h54 hro hn l Bs n₀ s hasc hsz J Jx hY W ((hW.cell (p := ⟨Bs, 0, none⟩) hB).trans hc) (fun c hcc => (hW.cell (p := ⟨0, c, none⟩) (by show 0 < w.heap.size; omega)).trans (hT c hcc)) h0n h0
set_option maxHeartbeats 1000000 in
theorem fields_mk (s : ByteArray) (w : World) :
  Calls Tryz.prog 149 #[.string s] w fun e w' => e = .returned (.func (.func 175) #[] #[.pointer (some ⟨w.heap.size, 0, none⟩)]) ∧ w' = w.alloc (.cells #[.string s] 9) := by
 go_enter Tryz.func149, Tryz.ntmps149
 go_wp2
 go_ret
 exact ⟨rfl, rfl⟩
theorem kw_pieces : flds [] kwM = kwsL := by decide +kernel
theorem kwC_list : kwC.data.toList = kwM := rfl
theorem mem_pieces (a : ByteArray) (s : ByteArray) : a ∈ pieces s ↔ a.data.toList ∈ flds [] s.data.toList := by
 unfold pieces
 rw [List.mem_map]
 constructor
 ·rintro ⟨b, hb, rfl⟩; exact hb
 ·intro h; exact ⟨_, h, by cases a; rfl⟩
theorem isKw_mem (a : ByteArray) : isKw a.data.toList = true ↔ a ∈ pieces kwC := by
 rw [mem_pieces, kwC_list, kw_pieces]
 unfold isKw
 exact List.contains_iff_mem
set_option maxRecDepth 100000 in
set_option maxHeartbeats 2000000 in
theorem isKeyword_walk (a0 : ByteArray) (w : World) (hL : LaidL w) :
  Calls Tryz.prog 108 #[.string a0] w fun e W' => e = .returned (.bool (isKw a0.data.toList)) ∧ Below w.heap.size w W' := by
 have hpos : 0 < w.heap.size := (World.block_lt_of_cell? w _ (hL.tab 0 (by decide)) : (⟨0, 0, none⟩ : Addr).block < w.heap.size)
 have hasc : ∀ b ∈ kwC.data.toList, b.toNat < 128 := by
  have : kwC.data.toList.all (fun b => decide (b.toNat < 128)) = true := by decide +kernel
  intro b hb
  exact of_decide_eq_true (List.all_eq_true.1 this b hb)
 refine (callsIn_wide (n := 6)).1 ?_
 refine callsIn_of_wp_marks Tryz.func108 rfl trivial ?_ rfl
 simp only [Tryz.ntmps108, List.size_toArray, List.length_cons, List.length_nil, Nat.reduceAdd, Nat.reduceSub, Array.replicate_succ, Array.replicate_zero, List.push_toArray, List.append_toArray, List.nil_append, List.cons_append]
 simp only [kwC_eq]
 gi_wp2_with (refine ⟨trivial, ?_⟩; gi_at_call 149; refine (callsIn_wide.2 (fields_mk kwC _)).mono ?_; rintro e w' ⟨rfl, rfl⟩)
 have c0 := cell_new_b w (.string a0) 9
 have c1 := cell_new_b (w.alloc (.cells #[.string a0] 9)) (.bool false) 4
 have c2 := cell_new_b ((w.alloc (.cells #[.string a0] 9)).alloc (.cells #[.bool false] 4)) (.string kwC) 9
 simp only [World.size_alloc] at c1 c2
 have hB0 : Below w.heap.size w (((w.alloc (.cells #[.string a0] 9)).alloc (.cells #[.bool false] 4)).alloc (.cells #[.string kwC] 9)) := (((Below.refl _ w).alloc (Nat.le_refl _) _).alloc (by simp) _).alloc (by simp; omega) _
 refine wpIn_rangeFunc_ownF rfl (by omega) (gf := 175) (lb := #[.pointer (some ⟨w.heap.size + 1 + 1, 0, none⟩)]) rfl trivial (enters_of Tryz.func175 (by kernel_rfl) rfl)
  (fields_stops Fence.wide (6 - 1) trivial rfl (by omega) (w.heap.size + 1 + 1) w.heap.size kwC hasc (by rw [kwC_size]; omega) _ (by simp) (by simp; omega) hpos c2.1 (fun c hc => (hB0.cell (p := ⟨0, c, none⟩) hpos).trans (hL.tab c hc))) (fun h k => KpF.t h k) (KpF.b (by simp; omega) (by simp)) (Below.refl _ _) (fun _ => rfl)
  (fun pre W => ((∀ y ∈ pre, y ≠ a0) ∧ W.cell? ⟨w.heap.size, 0, none⟩ = some (.string a0) ∧ W.cell? ⟨w.heap.size + 1, 0, none⟩ = some (.bool false) ∧ W.frozen? ⟨w.heap.size + 1, 0, none⟩ = false) ∧ Below w.heap.size w W)
  (fun c pre W => (c = .ret ∧ a0 ∈ pre ∧ W.cell? ⟨w.heap.size + 1, 0, none⟩ = some (.bool true)) ∧ Below w.heap.size w W)
  (OwnFrom.and (Own.from (fun s A B row hs hg hr => ⟨hs.1, Go.cell_kept hs.2.1 hg hr, Go.cell_kept hs.2.2.1 hg hr, (Go.frozen_kept hs.2.2.1 hg hr).trans hs.2.2.2⟩) _) (ownFrom_below (Nat.le_refl _) (by simp; omega)))
  (fun c => OwnFrom.and (Own.from (fun s A B row hs hg hr => ⟨hs.1, hs.2.1, Go.cell_kept hs.2.2 hg hr⟩) _) (ownFrom_below (Nat.le_refl _) (by simp; omega)))
  ⟨⟨by simp, cell_alloc_b _ (cell_alloc_b _ c0.1), cell_alloc_b _ c1.1, frozen_alloc_b _ c1.1 c1.2⟩, hB0⟩
  (fun x => { tmps := #[.string a0, .pointer (some ⟨w.heap.size, 0, none⟩), .pointer (some ⟨w.heap.size + 1, 0, none⟩), .string x, .func (.func 175) #[] #[.pointer (some ⟨w.heap.size + 1 + 1, 0, none⟩)], .string x, undef, undef, undef], defers := [] }) ?assign ?body ?done ?stop
 case assign =>
  intro l x W K hK
  gi_wp2
  exact hK
 case body =>
  rintro l pre x W ⟨⟨hp, hcw, hcr, hfr⟩, hB⟩ _
  gi_wp2
  ·rename_i hx
   have hx' : x = a0 := by
    apply ByteArray.ext
    have e := hx
    first
     | (rw [beq_iff_eq] at e; rw [Lib.toList_data, Lib.toList_data] at e; exact Array.toList_inj.1 e)
     | (rw [Lib.toList_data, Lib.toList_data] at e; exact Array.toList_inj.1 e)
     | (subst e; rfl)
   subst hx'
   exact ⟨KeepsOthers.setCell _ _ _, ⟨rfl, List.mem_append.2 (.inr (by simp)), World.cell?_setCell_same' _ _ _ (by rw [hcr]; rfl)⟩, hB.setCell (p := ⟨w.heap.size + 1, 0, none⟩) (by simp) _⟩
  ·rename_i hx
   have hx' : x ≠ a0 := by
    rintro rfl
    simp at hx
   exact ⟨KeepsOthers.refl _, KpF.refl _ _ _, ⟨fun y hy => (List.mem_append.1 hy).elim (hp y) (fun e e' => by simp at e; subst e; exact hx' e'), hcw, hcr, hfr⟩, hB⟩
 case done =>
  rintro D ys W hD rfl ⟨⟨hne, _, hcr, hfr⟩, hB⟩ hK
  have hk : isKw a0.data.toList = false := by
   rw [← Bool.not_eq_true, isKw_mem]
   intro h
   exact hne a0 h rfl
  gi_wp2
  have hK' := (KeepsOthers.setCell W ⟨w.heap.size + 1, 0, none⟩ (.bool false)).same D _ hK rfl
  refine ⟨by simp, .inl ⟨_, _, rfl, run_takeDeferred hK', ?_⟩⟩
  have hc5 := Go.cell_kept (World.cell?_setCell_same' W ⟨w.heap.size + 1, 0, none⟩ (.bool false) (by rw [hcr]; rfl)) (grownBy_putObj' _ D (.deferred none)) (fun r e => by cases e; exact ⟨_, hK', rfl⟩)
  refine ⟨.bool false, ?_, by rw [hk], (hB.setCell (p := ⟨w.heap.size + 1, 0, none⟩) (by simp) _).trans (belowK_b (w := w) (Nat.le_refl _) _ D _ _ (by simp at hD; omega) hK' rfl rfl)⟩
  simp [results, Tryz.f108, go_sem, hc5]
 case stop =>
  rintro D c pre W hD hpre ⟨⟨rfl, hin, hcr⟩, hB⟩ hK
  have hk : isKw a0.data.toList = true := (isKw_mem a0).2 (hpre.subset hin)
  gi_wp2
  refine ⟨by simp, .inl ⟨_, _, rfl, run_takeDeferred hK, ?_⟩⟩
  have hc5 := Go.cell_kept hcr (grownBy_putObj' _ D (.deferred none)) (fun r e => by cases e; exact ⟨_, hK, rfl⟩)
  refine ⟨.bool true, ?_, by rw [hk], hB.trans (belowK_b (w := w) (Nat.le_refl _) W D _ _ (by simp at hD; omega) hK rfl rfl)⟩
  simp [results, Tryz.f108, go_sem, hc5]
end Go.Proofs.YthgfdnffnbclpaaGreatDoor.PAll
namespace Go.Proofs.YthgfdnffnbclpaaGreatDoor.PAll
open Go.RowKit Go.Proofs.YthgfdnffnbclpaaGreatDoorW.PrintWords Go.Proofs.YthgfdnffnbclpaaGreatDoorW.PrintLast Go.Proofs.YthgfdnffnbclpaaGreatDoorW.PrintMore
def lex_IsKeyword.f (a0 : ByteArray) : Option (Bool) := some (isKw a0.data.toList)
theorem lex_IsKeyword.calls (a0 : ByteArray) (r : Bool) (w : World) (h : lex_IsKeyword.f a0 = some r) (hL : LaidL w) :
  Calls Tryz.prog 108 #[.string a0] w fun e w' => e = .returned (.bool r) ∧ Below w.heap.size w w' := by
 obtain rfl := Option.some.inj h
 exact isKeyword_walk a0 w hL
def foldB (up : Bool) (b : UInt8) : UInt8 := if up = true then Lx.up b else Lx.low b
def jointerref02_folded.f (a0 : ByteArray) (a1 : Bool) : Option (ByteArray) := if a0.size ≤ 140737488355328 then some ⟨(a0.data.toList.map (foldB a1)).toArray⟩ else none
theorem sget {s : ByteArray} {k : Nat} (h : k < s.size) : s.data.toList[k]? = some s[k] := by
 have h' : k < s.data.toList.length := by simpa using h
 rw [List.getElem?_eq_getElem h']; rfl
set_option maxHeartbeats 8000000 in
set_option maxRecDepth 100000 in
theorem jointerref02_folded.calls (a0 : ByteArray) (a1 : Bool) (r : ByteArray) (w : World) (h : jointerref02_folded.f a0 a1 = some r) :
  Calls Tryz.prog 99 #[.string a0, .bool a1] w fun e w' => e = .returned (.string r) ∧ Below w.heap.size w w' := by
 unfold jointerref02_folded.f at h
 split at h
 case isFalse => cases h
 rename_i hs
 obtain rfl := Option.some.inj h
 clear h
 have hcv := Lib.run_convert_string_bytes (P := Tryz.prog) w 9 188 5 a0 Tryz.underlying9 Tryz.underlying188 Tryz.underlying5
 have hB : ∀ (j : Nat) (hj : j < a0.size), (Lib.bytesWorld w 5 a0).cell? ⟨w.heap.size, j, none⟩ = some (.int .u8 (if j < 0 then foldB a1 a0[j] else a0[j]).toNat) := by
  intro j hj
  rw [Lib.bytesWorld_cell w 5 a0 j hj, if_neg (by omega)]
  have := sget hj
  simp [List.getD, this]
 have hF : ∀ (j : Nat) (hj : j < a0.size), (Lib.bytesWorld w 5 a0).frozen? ⟨w.heap.size, j, none⟩ = false := by
  intro j hj
  have hz : a0.size ≤ (Lib.bytesCells w 5 a0).size := by simp [Lib.bytesCells]
  unfold World.frozen?
  rw [Lib.bytesWorld_at_new]
  simp
  omega
 have hbel : Below w.heap.size w (Lib.bytesWorld w 5 a0) := bytes_below (Below.refl _ _) (Nat.le_refl _) 5 a0
 generalize Lib.bytesWorld w 5 a0 = W1 at *
 generalize grownCap w a0.size 0 5 = cp at *
 have HB := Aside0.mk hB
 have HF := Aside0.mk hF
 have HBL := Aside0.mk hbel
 clear hB hF hbel
 go_enter Tryz.func99, Tryz.ntmps99
 go_wp2
 go_loopg [6] a0.size (fun gk v6 wx => ∃ k : Nat, k + gk = a0.size ∧ v6 = .int .i64 k ∧ Aside0 (∀ (j : Nat) (hj : j < a0.size), wx.cell? ⟨w.heap.size, j, none⟩ = some (.int .u8 (if j < k then foldB a1 a0[j] else a0[j]).toNat)) ∧ Aside0 (∀ (j : Nat) (hj : j < a0.size), wx.frozen? ⟨w.heap.size, j, none⟩ = false) ∧ Aside0 (Below w.heap.size w wx))
 case atStart => exact ⟨0, by omega, rfl, HB, HF, HBL⟩
 case round =>
  clear HB HF HBL hcv
  obtain ⟨k, hk, rfl, HC, HF, HBL⟩ := hrel
  cases gk with
  | zero =>
   have hcb := run_convert_bytes_back (P := Tryz.prog) wr 188 9 5 ⟨w.heap.size, 0, none⟩ cp (a0.data.toList.map (foldB a1)) Tryz.underlying188 Tryz.underlying5 Tryz.underlying9 (fun j hj => by
    have hj' : j < a0.size := by simpa using hj
    have := HC.out j hj'
    rw [if_pos (by omega)] at this
    have e := sget hj'
    have e2 : (a0.data.toList.map (foldB a1))[j] = foldB a1 a0[j] := by
     rw [List.getElem_map]
     congr 1
    rw [e2, show (⟨w.heap.size, 0, none⟩ : Addr).add j = ⟨w.heap.size, j, none⟩ from by by_cases h : j = 0 <;> simp [Addr.add, h]]
    exact this)
   rw [show (a0.data.toList.map (foldB a1)).length = a0.size by simp] at hcb
   generalize hRB : (⟨(a0.data.toList.map (foldB a1)).toArray⟩ : ByteArray) = RB at *
   go_wp2
   go_ret
   exact ⟨by rw [hRB]; rfl, HBL.out⟩
  | succ gk =>
   have hlt : k < a0.size := by omega
   have hc := HC.out k hlt
   rw [if_neg (by omega)] at hc
   have hf := HF.out k hlt
   have hki : (k : Int) < (a0.size : Int) := by omega
   have hki0 : (0 : Int) ≤ (k : Int) := by omega
   have hst : ∀ (u : UInt8), foldB a1 a0[k] = u → Aside0 (∀ (j : Nat) (hj : j < a0.size), (wr.setCell ⟨w.heap.size, k, none⟩ (.int .u8 u.toNat)).cell? ⟨w.heap.size, j, none⟩ = some (.int .u8 (if j < k + 1 then foldB a1 a0[j] else a0[j]).toNat)) := by
    intro u hu
    refine ⟨fun j hj => ?_⟩
    by_cases hjk : j = k
    ·subst hjk
     rw [if_pos (by omega), World.cell?_setCell_same' wr _ _ (by rw [hc]; rfl), hu]
    ·have hne : (⟨w.heap.size, k, none⟩ : Addr) ≠ ⟨w.heap.size, j, none⟩ := fun e => hjk (by injection e with _ e2; exact e2.symm)
     rw [show (wr.setCell ⟨w.heap.size, k, none⟩ (.int .u8 u.toNat)).cell? ⟨w.heap.size, j, none⟩ = wr.cell? ⟨w.heap.size, j, none⟩ from World.cell?_setCell_other _ _ _ _ hne, HC.out j hj]
     by_cases h1 : j < k
     ·rw [if_pos h1, if_pos (by omega)]
     ·rw [if_neg h1, if_neg (by omega)]
   have hno : foldB a1 a0[k] = a0[k] → Aside0 (∀ (j : Nat) (hj : j < a0.size), wr.cell? ⟨w.heap.size, j, none⟩ = some (.int .u8 (if j < k + 1 then foldB a1 a0[j] else a0[j]).toNat)) := by
    intro hu
    refine ⟨fun j hj => ?_⟩
    rw [HC.out j hj]
    by_cases h1 : j < k
    ·rw [if_pos h1, if_pos (by omega)]
    ·rw [if_neg h1]
     by_cases hjk : j = k
     ·subst hjk; rw [if_pos (by omega), hu]
     ·rw [if_neg (by omega)]
   have hfs : ∀ v, Aside0 (∀ (j : Nat) (hj : j < a0.size), (wr.setCell ⟨w.heap.size, k, none⟩ v).frozen? ⟨w.heap.size, j, none⟩ = false) := fun v => ⟨fun j hj => by rw [World.frozen?_setCell]; exact HF.out j hj⟩
   have hbs : ∀ v, Aside0 (Below w.heap.size w (wr.setCell ⟨w.heap.size, k, none⟩ v)) := fun v => ⟨below_set HBL.out (Nat.le_refl _)⟩
   generalize a0[k] = b at *
   have hb256 := b.toNat_lt
   cases a1 with
   | true =>
    by_cases h1 : 97 ≤ b.toNat
    ·by_cases h2 : b.toNat ≤ 122
     ·have hu : foldB true b = b - 32 := by simp [foldB, Lx.up, h1, h2]
      have hsub : (b - 32).toNat = b.toNat - 32 := by rw [UInt8.toNat_sub_of_le b 32 (by show (32 : UInt8).toNat ≤ b.toNat; simp; omega)]; rfl
      have H1 := hst (b - 32) hu
      have hw : IntKind.u8.wrap ((b.toNat : Int) - 32) = (((b - 32).toNat : Nat) : Int) := by rw [IntKind.wrap_u8, hsub]; omega
      have i1 : (97 : Int) ≤ (b.toNat : Int) := by omega
      have i2 : (b.toNat : Int) ≤ 122 := by omega
      clear hst hno HC hu hsub
      generalize (b - 32).toNat = bn at *
      go_wp2
      go_roundg gk
      case measure => omega
      case rel => exact ⟨k + 1, by omega, by first | rfl | simp, H1, hfs _, hbs _⟩
     ·have H1 := hno (by simp [foldB, Lx.up, h2])
      have i1 : (97 : Int) ≤ (b.toNat : Int) := by omega
      have i2 : ¬ (b.toNat : Int) ≤ 122 := by omega
      clear hst hno HC
      go_wp2
      go_roundg gk
      case measure => omega
      case rel => exact ⟨k + 1, by omega, by first | rfl | simp, H1, HF, HBL⟩
    ·have H1 := hno (by simp [foldB, Lx.up, h1])
     have i1 : ¬ (97 : Int) ≤ (b.toNat : Int) := by omega
     clear hst hno HC
     go_wp2
     go_roundg gk
     case measure => omega
     case rel => exact ⟨k + 1, by omega, by first | rfl | simp, H1, HF, HBL⟩
   | false =>
    by_cases h1 : 65 ≤ b.toNat
    ·by_cases h2 : b.toNat ≤ 90
     ·have hu : foldB false b = b + 32 := by simp [foldB, Lx.low, h1, h2]
      have hsub : (b + 32).toNat = b.toNat + 32 := by rw [UInt8.toNat_add]; show (b.toNat + 32) % 256 = _; omega
      have H1 := hst (b + 32) hu
      have hw : IntKind.u8.wrap ((b.toNat : Int) + 32) = (((b + 32).toNat : Nat) : Int) := by rw [IntKind.wrap_u8, hsub]; omega
      have i1 : (65 : Int) ≤ (b.toNat : Int) := by omega
      have i2 : (b.toNat : Int) ≤ 90 := by omega
      clear hst hno HC hu hsub
      generalize (b + 32).toNat = bn at *
      go_wp2
      go_roundg gk
      case measure => omega
      case rel => exact ⟨k + 1, by omega, by first | rfl | simp, H1, hfs _, hbs _⟩
     ·have H1 := hno (by simp [foldB, Lx.low, h2])
      have i1 : (65 : Int) ≤ (b.toNat : Int) := by omega
      have i2 : ¬ (b.toNat : Int) ≤ 90 := by omega
      clear hst hno HC
      go_wp2
      go_roundg gk
      case measure => omega
      case rel => exact ⟨k + 1, by omega, by first | rfl | simp, H1, HF, HBL⟩
    ·have H1 := hno (by simp [foldB, Lx.low, h1])
     have i1 : ¬ (65 : Int) ≤ (b.toNat : Int) := by omega
     clear hst hno HC
     go_wp2
     go_roundg gk
     case measure => omega
     case rel => exact ⟨k + 1, by omega, by first | rfl | simp, H1, HF, HBL⟩
def findP (nm : ByteArray) : Nat → List S49 → Int
 | _, [] => -1
 | i, t :: r => if t.f0.toList = nm.toList then (i : Int) else findP nm (i + 1) r
theorem hasName_walk (nm0 nm : ByteArray) (A1 : Option Addr) (n1 c1 : Nat) (A2 : Option Addr) (n2 c2 : Nat) (A3 : Option Addr) (n3 c3 : Nat) (A4 : Option Addr) (n4 c4 : Nat) (ad : Addr) (w : World) (hx : w.cell? ad = some (.string nm)) :
  Calls Tryz.prog 83 #[.agg #[.string nm0, .slice A1 n1 c1, .slice A2 n2 c2, .slice A3 n3 c3, .slice A4 n4 c4], .pointer (some ad)] w fun e w' => e = .returned (.bool (nm0.toList == nm.toList)) ∧ Below w.heap.size w w' := by
 have hx2 : ∀ o, (w.alloc o).cell? ad = some (.string nm) := fun o => cell_al o hx
 go_enter Tryz.func83, Tryz.ntmps83
 go_wp2
 go_ret
 exact ⟨rfl, (Below.refl _ _).alloc (Nat.le_refl _) _⟩
set_option maxRecDepth 100000 in
theorem idxName_walk (A : Option Addr) (c : Nat) (l : List S49) (nm : ByteArray) (ad : Addr) (w : World) (hC : Kd.C k49 w A l.length l) (hc : l.length ≤ c) (hx : w.cell? ad = some (.string nm)) :
  Calls Tryz.prog 82 #[.slice A l.length c, .func (.func 83) #[] #[.pointer (some ad)]] w fun e w' => e = .returned (.int .i64 (findP nm 0 l)) ∧ Below w.heap.size w w' := by
 have HC := Aside0.mk hC
 have HX := Aside0.mk hx
 have HB0 := Aside0.mk (Below.refl w.heap.size w)
 clear hC hx
 go_enter Tryz.func82, Tryz.ntmps82
 go_wp2
 go_loopg [8] l.length (fun gk v8 wx => ∃ (i : Nat), i + gk = l.length ∧ v8 = .int .i64 i ∧ Aside0 (Below w.heap.size w wx) ∧ Aside0 (findP nm 0 l = findP nm i (l.drop i)))
 case atStart => exact ⟨0, by omega, rfl, HB0, ⟨by simp⟩⟩
 case round =>
  clear HB0
  obtain ⟨i, hi, rfl, HW, HP⟩ := hrel
  cases gk with
  | zero =>
   have e : l.drop i = [] := List.drop_eq_nil_of_le (by omega)
   have hp := HP.out
   rw [e] at hp
   have hii : ¬ (i : Int) < (l.length : Int) := by omega
   go_wp2
   go_ret
   exact ⟨by first | rfl | (rw [hp]; rfl), HW.out⟩
  | succ gk =>
   have hlt : i < l.length := by omega
   have hii : (i : Int) < (l.length : Int) := by omega
   have hi0 : (0 : Int) ≤ (i : Int) := by omega
   have hdr : l.drop i = l[i] :: l.drop (i + 1) := List.drop_eq_getElem_cons hlt
   have hrd : rd_T49 l (i : Int) = l[i] := by unfold rd_T49; simp [List.getD, hlt]
   obtain ⟨ad2, A1, c1, A2, c2, A3, c3, A4, c4, hA, hx0, hx1, hx2, hx3, hx4, _⟩ := at_T49 HC.out (i : Int) hi0 hii
   cases hA
   rw [hrd] at hx0 hx1 hx2 hx3 hx4
   rw [Int.toNat_natCast] at hx0 hx1 hx2 hx3 hx4
   have hy0 := (HW.out.cell (World.block_lt_of_cell? w _ hx0)).trans hx0
   have hy1 := (HW.out.cell (World.block_lt_of_cell? w _ hx1)).trans hx1
   have hy2 := (HW.out.cell (World.block_lt_of_cell? w _ hx2)).trans hx2
   have hy3 := (HW.out.cell (World.block_lt_of_cell? w _ hx3)).trans hx3
   have hy4 := (HW.out.cell (World.block_lt_of_cell? w _ hx4)).trans hx4
   have hp := HP.out
   rw [hdr, findP] at hp
   generalize l[i] = x at *
   have hnm := (HW.out.cell (World.block_lt_of_cell? w _ HX.out)).trans HX.out
   have HN := Aside0.mk (hasName_walk x.f0 nm A1 x.f1.length c1 A2 x.f2.length c2 A3 x.f3.length c3 A4 x.f4.length c4 ad wr hnm)
   clear hx0 hx1 hx2 hx3 hx4 hnm
   by_cases hh : x.f0.toList = nm.toList
   ·rw [if_pos hh] at hp
    have hb : (x.f0.toList == nm.toList) = true := beq_iff_eq.mpr hh
    have HN2 : Aside0 (Calls Tryz.prog 83 #[.agg #[.string x.f0, .slice A1 x.f1.length c1, .slice A2 x.f2.length c2, .slice A3 x.f3.length c3, .slice A4 x.f4.length c4], .pointer (some ad)] wr fun e w' => e = .returned (.bool true) ∧ Below wr.heap.size wr w') := ⟨by rw [← hb]; exact HN.out⟩
    clear hh HN hb
    go_wp2_with (go_at_call 83; refine HN2.out.mono ?_; rintro e w1 ⟨rfl, hb1⟩)
    go_ret
    exact ⟨by first | rfl | (rw [hp]; rfl), below_step HW.out hb1⟩
   ·rw [if_neg hh] at hp
    have hb : (x.f0.toList == nm.toList) = false := beq_eq_false_iff_ne.mpr hh
    have HN2 : Aside0 (Calls Tryz.prog 83 #[.agg #[.string x.f0, .slice A1 x.f1.length c1, .slice A2 x.f2.length c2, .slice A3 x.f3.length c3, .slice A4 x.f4.length c4], .pointer (some ad)] wr fun e w' => e = .returned (.bool false) ∧ Below wr.heap.size wr w') := ⟨by rw [← hb]; exact HN.out⟩
    clear hh HN hb
    go_wp2_with (go_at_call 83; refine HN2.out.mono ?_; rintro e w1 ⟨rfl, hb1⟩)
    go_roundg gk
    case measure => omega
    case rel => exact ⟨i + 1, by omega, by first | rfl | (simp; done) | (have := HC.out.2.1; simp; unfold wrap64; omega), ⟨below_step HW.out hb1⟩, ⟨hp⟩⟩
def scheme_find.f (l : List S49) (nm : ByteArray) : Option Int := some (findP nm 0 l)
theorem scheme_find.calls (A0 : Option Addr) (c0 : Nat) (l0 : List S49) (a1 : ByteArray) (r : Int) (w : World) (hr0 : Kd.C k49 w A0 l0.length l0) (hc0 : l0.length ≤ c0) (h : scheme_find.f l0 a1 = some r) :
  Calls Tryz.prog 33 #[.slice A0 l0.length c0, .string a1] w fun e w' => e = .returned (.int .i64 r) ∧ Below w.heap.size w w' := by
 obtain rfl := Option.some.inj h
 have hbel : Below w.heap.size w (w.alloc (Obj.cells #[.string a1] 9)) := (Below.refl _ _).alloc (Nat.le_refl _) _
 have HI := Aside0.mk (idxName_walk A0 c0 l0 a1 ⟨w.heap.size, 0, none⟩ (w.alloc (Obj.cells #[.string a1] 9)) (Kd.C_below hr0 hbel) hc0 ((blk_cell (Go.Deep.blk_alloc_new w _) 0).trans rfl))
 have HB := Aside0.mk hbel
 clear hr0 h hbel
 go_enter Tryz.func33, Tryz.ntmps33
 go_wp2_with (go_at_call 82; refine HI.out.mono ?_; rintro e w1 ⟨rfl, hb1⟩)
 go_ret
 exact ⟨rfl, below_step HB.out hb1⟩
def rrP (tc oc : List S78) (all key : List Int) : Nat → Nat → Option Bool
 | 0, _ => some true
 | g + 1, i => if rd all i < 0 then some false else if rd all i ≥ (tc.length : Int) then some false else if 0 ≤ rd key i ∧ rd key i < (oc.length : Int) then
   if (rd_T78 tc (rd all i)).f1 = (rd_T78 oc (rd key i)).f1 then (if rd all i ∈ all.take i then some false else rrP tc oc all key g (i + 1)) else some false
  else none
def refRefP (s : List S49) (n : Int) (cols : List Int) (t q : Int) : Option Bool :=
 if t < 0 then some false else if t ≥ n then some false else if q < 0 then some false else if q ≥ ((rd_T49 s t).f2.length : Int) then some false else
  if (cols.length : Int) = ((rd_L6 (rd_T49 s t).f2 q).length : Int) then rrP (rd_T49 s n).f1 (rd_T49 s t).f1 cols (rd_L6 (rd_T49 s t).f2 q) cols.length 0 else some false
theorem ret_n {a b : Int} (h : a = b) : Value.int .i64 a = Value.int .i64 b := by rw [h]
theorem drop_cons_rd {l : List Int} {i j : Nat} (h : j < i) (hi : i ≤ l.length) : (l.take i).drop j = rd l (j : Int) :: (l.take i).drop (j + 1) := by
 rw [List.drop_eq_getElem_cons (by rw [List.length_take]; omega)]
 congr 1
 unfold rd
 simp [List.getD, show j < l.length by omega]
set_option maxHeartbeats 4000000 in
set_option maxRecDepth 100000 in
theorem refRef_walk (A0 : Option Addr) (c0 : Nat) (s : List S49) (n : Int) (A2 : Option Addr) (c2 : Nat) (cols : List Int) (t q : Int) (r : Bool) (w : World) (hS : Kd.C k49 w A0 s.length s) (hc0 : s.length ≤ c0) (hn0 : 0 ≤ n) (hn1 : n < (s.length : Int))
  (hC : Kd.C (Kd.int .i64) w A2 cols.length cols) (hc2 : cols.length ≤ c2) (h : refRefP s n cols t q = some r) :
  Calls Tryz.prog 162 #[.slice A0 s.length c0, .int .i64 n, .agg #[.slice A2 cols.length c2, .int .i64 t, .int .i64 q]] w fun e w' => e = .returned (.bool r) ∧ Below w.heap.size w w' := by
 have HS := Aside0.mk hS
 have HC := Aside0.mk hC
 have HH := Aside0.mk h
 clear hS hC h
 go_enter Tryz.func162, Tryz.ntmps162
 go_wp2
 obtain ⟨B, hB⟩ : ∃ B, B = w.heap.size := ⟨_, rfl⟩
 obtain ⟨W1, hW1⟩ : ∃ W, W = w.alloc (Obj.cells #[Value.slice A2 cols.length c2, Value.int IntKind.i64 t, Value.int IntKind.i64 q] 75) := ⟨_, rfl⟩
 have hb5 : W1.heap[B]? = some (.cells #[Value.slice A2 cols.length c2, Value.int IntKind.i64 t, Value.int IntKind.i64 q] 75 (0, 0)) := by rw [hW1, hB]; exact Go.Deep.blk_alloc_new w _
 have hBW : Below w.heap.size w W1 := by rw [hW1]; exact (Below.refl _ _).alloc (Nat.le_refl _) _
 rw [← hW1, ← hB]
 clear hW1 hB
 have KB : Aside0 (∀ W, Below W1.heap.size W1 W → W.cell? ⟨B, 0, none⟩ = some (Value.slice A2 cols.length c2) ∧ W.cell? ⟨B, 1, none⟩ = some (Value.int IntKind.i64 t) ∧ W.cell? ⟨B, 2, none⟩ = some (Value.int IntKind.i64 q)) := ⟨fun W hW => by
  have h5 := (hW.block _ (blk_lt hb5)).trans hb5
  exact ⟨(blk_cell h5 0).trans rfl, (blk_cell h5 1).trans rfl, (blk_cell h5 2).trans rfl⟩⟩
 have HBW := Aside0.mk hBW
 clear hb5 hBW
 obtain ⟨c0_, c1_, c2_⟩ := KB.out W1 (Below.refl _ _)
 have h := HH.out
 unfold refRefP at h
 clear HH
 by_cases q1 : t < 0
 ·rw [if_pos q1] at h
  obtain rfl := Option.some.inj h
  have d1 : decide (t < 0) = true := decide_eq_true q1
  clear h q1
  go_quiet (fail)
  go_wp2
  go_ret
  exact ⟨rfl, pw_below_drewN HBW.out _⟩
 rw [if_neg q1] at h
 have d1 : decide (t < 0) = false := decide_eq_false q1
 by_cases q2 : t ≥ n
 ·rw [if_pos q2] at h
  obtain rfl := Option.some.inj h
  have d2 : decide (n ≤ t) = true := decide_eq_true q2
  clear h q1 q2
  go_quiet (fail)
  go_wp2
  go_ret
  exact ⟨rfl, pw_below_drewN HBW.out _⟩
 rw [if_neg q2] at h
 have d2 : decide (n ≤ t) = false := decide_eq_false q2
 by_cases q3 : q < 0
 ·rw [if_pos q3] at h
  obtain rfl := Option.some.inj h
  have d3 : decide (q < 0) = true := decide_eq_true q3
  clear h q1 q2 q3
  go_quiet (fail)
  go_wp2
  go_ret
  exact ⟨rfl, pw_below_drewN HBW.out _⟩
 rw [if_neg q3] at h
 have d3 : decide (q < 0) = false := decide_eq_false q3
 have h1 : 0 ≤ t := by omega
 have h2 : t < (s.length : Int) := by omega
 obtain ⟨ad, A1, c1, A2_, c2_x, A3, c3, A4, c4, hA, hx0, hx1, hx2, hx3, hx4, g1, h1_, g2, h2_, g3, h3_, g4, h4_⟩ := at_T49 (Kd.C_below HS.out HBW.out) t h1 h2
 obtain ⟨an, N1, n1, N2, n2, N3, n3, N4, n4, hAn, hz0, hz1, hz2, hz3, hz4, m1, l1_, m2, l2_, m3, l3_, m4, l4_⟩ := at_T49 (Kd.C_below HS.out HBW.out) n hn0 hn1
 cases hA
 cases hAn
 clear hx0 hx3 hx4 g1 g2 g3 h3_ g4 h4_ hz0 hz2 hz3 hz4 m1 m2 l2_ m3 l3_ m4 l4_
 generalize rd_T49 s t = x at *
 generalize rd_T49 s n = y at *
 by_cases q4 : q ≥ (x.f2.length : Int)
 ·rw [if_pos q4] at h
  obtain rfl := Option.some.inj h
  have d4 : decide ((x.f2.length : Int) ≤ q) = true := decide_eq_true q4
  clear h q1 q2 q3 q4
  go_quiet (fail)
  go_wp2
  go_ret
  exact ⟨rfl, pw_below_drewN HBW.out _⟩
 rw [if_neg q4] at h
 have d4 : decide ((x.f2.length : Int) ≤ q) = false := decide_eq_false q4
 have h3 : 0 ≤ q := by omega
 have h4 : q < (x.f2.length : Int) := by omega
 obtain ⟨ak, Ak, ck, hAk, hk, hck, hCk⟩ := at_L6 h2_ q h3 h4
 cases hAk
 clear h2_
 generalize rd_L6 x.f2 q = key at *
 have HK := Aside0.mk hCk
 have HO := Aside0.mk h1_
 have HT := Aside0.mk l1_
 have KX : Aside0 (∀ W, Below W1.heap.size W1 W → W.cell? ⟨(ad.add (t.toNat * 5)).block, (ad.add (t.toNat * 5)).off + 1, none⟩ = some (Value.slice A1 x.f1.length c1) ∧ W.cell? ⟨(ad.add (n.toNat * 5)).block, (ad.add (n.toNat * 5)).off + 1, none⟩ = some (Value.slice N1 y.f1.length n1)) := ⟨fun W hW =>
  ⟨(hW.cell (World.block_lt_of_cell? W1 _ hx1)).trans hx1, (hW.cell (World.block_lt_of_cell? W1 _ hz1)).trans hz1⟩⟩
 clear hx1 hz1 hCk h1_ l1_
 by_cases q5 : (cols.length : Int) = (key.length : Int)
 case neg =>
  rw [if_neg q5] at h
  obtain rfl := Option.some.inj h
  have e1 : ((cols.length : Int) == (key.length : Int)) = false := beq_eq_false_iff_ne.mpr q5
  have e2 : ((cols.length : Int) != (key.length : Int)) = true := by rw [bne, e1]; rfl
  clear h q1 q2 q3 q4 q5
  go_quiet (fail)
  go_wp2
  go_quiet (fail)
  go_wp2
  go_ret
  exact ⟨rfl, pw_below_drewN HBW.out _⟩
 rw [if_pos q5] at h
 have e1 : ((cols.length : Int) == (key.length : Int)) = true := beq_iff_eq.mpr q5
 have e2 : ((cols.length : Int) != (key.length : Int)) = false := by rw [bne, e1]; rfl
 have HP := Aside0.mk h
 have HE := Aside0.mk q5
 clear h q1 q2 q3 q4 q5
 go_quiet (fail)
 go_wp2
 go_quiet (fail)
 go_wp2
 go_loopg [8] cols.length (fun gk v8 wx => ∃ (i : Nat), i + gk = cols.length ∧ v8 = .int .i64 i ∧ Aside0 (Below W1.heap.size W1 wx) ∧ Aside0 (rrP y.f1 x.f1 cols key gk i = some r))
 case atStart => exact ⟨0, by omega, rfl, ⟨pw_below_drewN (Below.refl _ _) _⟩, HP⟩
 case round =>
  clear HP d1 d2 d3 d4 e1 e2 c0_ c1_ c2_ hx2 hk
  obtain ⟨i, hi, rfl, HW, HP⟩ := hrel
  obtain ⟨y0, y1, y2⟩ := KB.out wr HW.out
  cases gk with
  | zero =>
   have hp := HP.out
   rw [rrP] at hp
   obtain rfl := Option.some.inj hp
   have hii : ¬ (i : Int) < (cols.length : Int) := by omega
   clear hp HP
   go_wp2
   go_ret
   exact ⟨rfl, below_step HBW.out HW.out⟩
  | succ go =>
   have hii : (i : Int) < (cols.length : Int) := by omega
   have hi0 : (0 : Int) ≤ (i : Int) := by omega
   have hlen := HC.out.2.1
   obtain ⟨ac, hac, hxc⟩ := Kd.at_int HC.out (i : Int) hi0 hii
   cases hac
   have hik : (i : Int) < (key.length : Int) := by have := HE.out; omega
   obtain ⟨aq, haq, hxq⟩ := Kd.at_int HK.out (i : Int) hi0 hik
   cases haq
   rw [Int.toNat_natCast] at hxc hxq
   replace hxc := ((below_step HBW.out HW.out).cell (World.block_lt_of_cell? w _ hxc)).trans hxc
   replace hxq := (HW.out.cell (World.block_lt_of_cell? W1 _ hxq)).trans hxq
   obtain ⟨z1, z2⟩ := KX.out wr HW.out
   have hp := HP.out
   rw [rrP] at hp
   clear HP
   generalize hcc : rd cols (i : Int) = cc at *
   have HCC := Aside0.mk hcc
   clear hcc
   generalize rd key (i : Int) = kk at *
   by_cases q1 : cc < 0
   ·rw [if_pos q1] at hp
    obtain rfl := Option.some.inj hp
    have d1 : decide (cc < 0) = true := decide_eq_true q1
    clear hp q1
    go_wp2
    go_quiet (fail)
    go_wp2
    go_ret
    exact ⟨rfl, pw_below_drewN (below_step HBW.out HW.out) _⟩
   rw [if_neg q1] at hp
   have d1 : decide (cc < 0) = false := decide_eq_false q1
   by_cases q2 : cc ≥ (y.f1.length : Int)
   ·rw [if_pos q2] at hp
    obtain rfl := Option.some.inj hp
    have d2 : decide ((y.f1.length : Int) ≤ cc) = true := decide_eq_true q2
    clear hp q1 q2
    go_wp2
    go_quiet (fail)
    go_wp2
    go_ret
    exact ⟨rfl, pw_below_drewN (below_step HBW.out HW.out) _⟩
   rw [if_neg q2] at hp
   have d2 : decide ((y.f1.length : Int) ≤ cc) = false := decide_eq_false q2
   have n1_ : 0 ≤ cc := by omega
   have n2_ : cc < (y.f1.length : Int) := by omega
   by_cases q3 : 0 ≤ kk ∧ kk < (x.f1.length : Int)
   case neg => rw [if_neg q3] at hp; cases hp
   rw [if_pos q3] at hp
   obtain ⟨n3_, n4_⟩ := q3
   obtain ⟨a1, ha1, _, hk1, _⟩ := at_T78 (Kd.C_below HT.out HW.out) cc n1_ n2_
   cases ha1
   obtain ⟨a2, ha2, _, hk2, _⟩ := at_T78 (Kd.C_below HO.out HW.out) kk n3_ n4_
   cases ha2
   generalize (rd_T78 y.f1 cc).f1 = t1 at *
   generalize (rd_T78 x.f1 kk).f1 = t2 at *
   by_cases q4 : t1 = t2
   case neg =>
    rw [if_neg q4] at hp
    obtain rfl := Option.some.inj hp
    have e1 : (t1 == t2) = false := beq_eq_false_iff_ne.mpr q4
    have e2 : (t1 != t2) = true := by rw [bne, e1]; rfl
    clear hp q1 q2 q4
    go_wp2
    go_quiet (fail)
    go_wp2
    go_ret
    exact ⟨rfl, pw_below_drewN (below_step HBW.out HW.out) _⟩
   rw [if_pos q4] at hp
   have e1 : (t1 == t2) = true := beq_iff_eq.mpr q4
   have e2 : (t1 != t2) = false := by rw [bne, e1]; rfl
   have HP := Aside0.mk hp
   clear hp q1 q2 q4
   go_wp2
   go_quiet (fail)
   go_wp2
   clear hk1 hk2 d1 d2 e1 e2 hxq z1 z2 y0 y1 y2 hii hik
   go_loopg [9] i (fun gj v9 wx => ∃ (j : Nat), j + gj = i ∧ v9 = .int .i64 j ∧ Aside0 (Below W1.heap.size W1 wx) ∧ Aside0 ((if cc ∈ (cols.take i).drop j then some false else rrP y.f1 x.f1 cols key go (i + 1)) = some r))
   case atStart => exact ⟨0, by omega, rfl, ⟨pw_below_drewN HW.out _⟩, HP⟩
   case round =>
    clear HW HP hxc
    obtain ⟨j, hj, rfl, HW, HP⟩ := hrel
    obtain ⟨y0, y1, y2⟩ := KB.out wr HW.out
    cases gk with
    | zero =>
     have e : (cols.take i).drop j = [] := List.drop_eq_nil_of_le (by rw [List.length_take]; omega)
     have hp := HP.out
     rw [e, if_neg (by simp)] at hp
     have HP2 := Aside0.mk hp
     have hjj : ¬ (j : Int) < (i : Int) := by omega
     clear hp HP e
     go_wp2
     go_roundg go
     case measure => omega
     case rel => exact ⟨i + 1, by omega, ret_n (by omega), HW, HP2⟩
    | succ gj =>
     have hjj : (j : Int) < (i : Int) := by omega
     have hj0 : (0 : Int) ≤ (j : Int) := by omega
     have hii : (i : Int) < (cols.length : Int) := by omega
     have hjl : (j : Int) < (cols.length : Int) := by omega
     obtain ⟨ac, hac, hxj⟩ := Kd.at_int HC.out (j : Int) hj0 hjl
     cases hac
     obtain ⟨ac, hac, hxi⟩ := Kd.at_int HC.out (i : Int) hi0 hii
     cases hac
     rw [HCC.out] at hxi
     rw [Int.toNat_natCast] at hxi hxj
     replace hxi := ((below_step HBW.out HW.out).cell (World.block_lt_of_cell? w _ hxi)).trans hxi
     replace hxj := ((below_step HBW.out HW.out).cell (World.block_lt_of_cell? w _ hxj)).trans hxj
     have hp := HP.out
     rw [drop_cons_rd (by omega) (by omega)] at hp
     clear HP
     generalize rd cols (j : Int) = cj at *
     by_cases q : cj = cc
     ·rw [if_pos (by rw [q]; exact List.mem_cons_self)] at hp
      obtain rfl := Option.some.inj hp
      have e1 : (cj == cc) = true := beq_iff_eq.mpr q
      clear hp q
      go_wp2
      go_quiet (fail)
      go_wp2
      go_ret
      exact ⟨rfl, pw_below_drewN (below_step HBW.out HW.out) _⟩
     ·have HP2 : Aside0 ((if cc ∈ (cols.take i).drop (j + 1) then some false else rrP y.f1 x.f1 cols key go (i + 1)) = some r) := ⟨by
       rw [← hp]
       have : (cc ∈ cj :: (cols.take i).drop (j + 1)) ↔ cc ∈ (cols.take i).drop (j + 1) := by
        rw [List.mem_cons]; constructor
        ·rintro (h | h); exact absurd h.symm q; exact h
        ·exact .inr
       by_cases hm : cc ∈ (cols.take i).drop (j + 1)
       ·rw [if_pos hm, if_pos (this.2 hm)]
       ·rw [if_neg hm, if_neg (fun h => hm (this.1 h))]⟩
      have e1 : (cj == cc) = false := beq_eq_false_iff_ne.mpr q
      clear hp q
      go_wp2
      go_quiet (fail)
      go_wp2
      go_roundg gj
      case measure => omega
      case rel => exact ⟨j + 1, by omega, ret_n (by omega), ⟨pw_below_drewN HW.out _⟩, HP2⟩
def colP (nm : ByteArray) : Nat → List S78 → Int
 | _, [] => -1
 | i, t :: r => if t.f0.toList = nm.toList then (i : Int) else colP nm (i + 1) r
theorem colP_range (nm : ByteArray) : ∀ (s : List S78) (i : Nat), colP nm i s = -1 ∨ ((i : Int) ≤ colP nm i s ∧ colP nm i s < (i + s.length : Nat))
 | [], i => Or.inl rfl
 | t :: r, i => by
  rw [colP]
  split
  ·right; simp; omega
  ·have := colP_range nm r (i + 1)
   simp at this ⊢; omega
theorem hasCol_walk (c : S78) (nm : ByteArray) (ad : Addr) (w : World) (hx : w.cell? ad = some (.string nm)) :
  Calls Tryz.prog 139 #[.agg #[.string c.f0, .int .u8 c.f1, .bool c.f2, .int .i64 c.f3, .int .i64 c.f4], .pointer (some ad)] w fun e w' => e = .returned (.bool (c.f0.toList == nm.toList)) ∧ Below w.heap.size w w' := by
 have hx2 : ∀ o, (w.alloc o).cell? ad = some (.string nm) := fun o => cell_al o hx
 go_enter Tryz.func139, Tryz.ntmps139
 go_wp2
 go_ret
 exact ⟨rfl, (Below.refl _ _).alloc (Nat.le_refl _) _⟩
set_option maxRecDepth 100000 in
theorem idxCol_walk (A : Option Addr) (c : Nat) (l : List S78) (nm : ByteArray) (ad : Addr) (w : World) (hC : Kd.C k78 w A l.length l) (hc : l.length ≤ c) (hx : w.cell? ad = some (.string nm)) :
  Calls Tryz.prog 138 #[.slice A l.length c, .func (.func 139) #[] #[.pointer (some ad)]] w fun e w' => e = .returned (.int .i64 (colP nm 0 l)) ∧ Below w.heap.size w w' := by
 have HC := Aside0.mk hC
 have HX := Aside0.mk hx
 have HB0 := Aside0.mk (Below.refl w.heap.size w)
 clear hC hx
 go_enter Tryz.func138, Tryz.ntmps138
 go_wp2
 go_loopg [8] l.length (fun gk v8 wx => ∃ (i : Nat), i + gk = l.length ∧ v8 = .int .i64 i ∧ Aside0 (Below w.heap.size w wx) ∧ Aside0 (colP nm 0 l = colP nm i (l.drop i)))
 case atStart => exact ⟨0, by omega, rfl, HB0, ⟨by simp⟩⟩
 case round =>
  clear HB0
  obtain ⟨i, hi, rfl, HW, HP⟩ := hrel
  cases gk with
  | zero =>
   have e : l.drop i = [] := List.drop_eq_nil_of_le (by omega)
   have hp := HP.out
   rw [e] at hp
   have hii : ¬ (i : Int) < (l.length : Int) := by omega
   go_wp2
   go_ret
   exact ⟨by first | rfl | (rw [hp]; rfl), HW.out⟩
  | succ gk =>
   have hlt : i < l.length := by omega
   have hii : (i : Int) < (l.length : Int) := by omega
   have hi0 : (0 : Int) ≤ (i : Int) := by omega
   have hdr : l.drop i = l[i] :: l.drop (i + 1) := List.drop_eq_getElem_cons hlt
   have hrd : rd_T78 l (i : Int) = l[i] := by unfold rd_T78; simp [List.getD, hlt]
   obtain ⟨ad2, hA, hx0, hx1, hx2, hx3, hx4⟩ := at_T78 HC.out (i : Int) hi0 hii
   cases hA
   rw [hrd] at hx0 hx1 hx2 hx3 hx4
   rw [Int.toNat_natCast] at hx0 hx1 hx2 hx3 hx4
   have hy0 := (HW.out.cell (World.block_lt_of_cell? w _ hx0)).trans hx0
   have hy1 := (HW.out.cell (World.block_lt_of_cell? w _ hx1)).trans hx1
   have hy2 := (HW.out.cell (World.block_lt_of_cell? w _ hx2)).trans hx2
   have hy3 := (HW.out.cell (World.block_lt_of_cell? w _ hx3)).trans hx3
   have hy4 := (HW.out.cell (World.block_lt_of_cell? w _ hx4)).trans hx4
   have hp := HP.out
   rw [hdr, colP] at hp
   generalize l[i] = x at *
   have hnm := (HW.out.cell (World.block_lt_of_cell? w _ HX.out)).trans HX.out
   have HN := Aside0.mk (hasCol_walk x nm ad wr hnm)
   clear hx0 hx1 hx2 hx3 hx4 hnm
   by_cases hh : x.f0.toList = nm.toList
   ·rw [if_pos hh] at hp
    have hb : (x.f0.toList == nm.toList) = true := beq_iff_eq.mpr hh
    have HN2 : Aside0 (Calls Tryz.prog 139 #[.agg #[.string x.f0, .int .u8 x.f1, .bool x.f2, .int .i64 x.f3, .int .i64 x.f4], .pointer (some ad)] wr fun e w' => e = .returned (.bool true) ∧ Below wr.heap.size wr w') := ⟨by rw [← hb]; exact HN.out⟩
    clear hh HN hb
    go_wp2_with (go_at_call 139; refine HN2.out.mono ?_; rintro e w1 ⟨rfl, hb1⟩)
    go_ret
    exact ⟨by first | rfl | (rw [hp]; rfl), below_step HW.out hb1⟩
   ·rw [if_neg hh] at hp
    have hb : (x.f0.toList == nm.toList) = false := beq_eq_false_iff_ne.mpr hh
    have HN2 : Aside0 (Calls Tryz.prog 139 #[.agg #[.string x.f0, .int .u8 x.f1, .bool x.f2, .int .i64 x.f3, .int .i64 x.f4], .pointer (some ad)] wr fun e w' => e = .returned (.bool false) ∧ Below wr.heap.size wr w') := ⟨by rw [← hb]; exact HN.out⟩
    clear hh HN hb
    go_wp2_with (go_at_call 139; refine HN2.out.mono ?_; rintro e w1 ⟨rfl, hb1⟩)
    go_roundg gk
    case measure => omega
    case rel => exact ⟨i + 1, by omega, by first | rfl | (simp; done) | (have := HC.out.2.1; simp; unfold wrap64; omega), ⟨below_step HW.out hb1⟩, ⟨hp⟩⟩
theorem column_walk (f0 : ByteArray) (A1 : Option Addr) (c1 : Nat) (l : List S78) (A2 : Option Addr) (n2 c2 : Nat) (A3 : Option Addr) (n3 c3 : Nat) (A4 : Option Addr) (n4 c4 : Nat) (nm : ByteArray) (w : World) (hC : Kd.C k78 w A1 l.length l) (hc : l.length ≤ c1) :
  Calls Tryz.prog 91 #[.agg #[.string f0, .slice A1 l.length c1, .slice A2 n2 c2, .slice A3 n3 c3, .slice A4 n4 c4], .string nm] w fun e w' => e = .returned (.int .i64 (colP nm 0 l)) ∧ Below w.heap.size w w' := by
 have hbel : Below w.heap.size w ((w.alloc (Obj.cells #[.string f0, .slice A1 l.length c1, .slice A2 n2 c2, .slice A3 n3 c3, .slice A4 n4 c4] 72)).alloc (Obj.cells #[.string nm] 9)) := ((Below.refl _ _).alloc (Nat.le_refl _) _).alloc (by simp) _
 have hsz : (w.alloc (Obj.cells #[.string f0, .slice A1 l.length c1, .slice A2 n2 c2, .slice A3 n3 c3, .slice A4 n4 c4] 72)).heap.size = w.heap.size + 1 := Array.size_push _
 have hcl : ((w.alloc (Obj.cells #[.string f0, .slice A1 l.length c1, .slice A2 n2 c2, .slice A3 n3 c3, .slice A4 n4 c4] 72)).alloc (Obj.cells #[.string nm] 9)).cell? ⟨w.heap.size + 1, 0, none⟩ = some (.string nm) := by
  rw [← hsz]; exact (blk_cell (Go.Deep.blk_alloc_new _ _) 0).trans rfl
 have HI := Aside0.mk (idxCol_walk A1 c1 l nm ⟨w.heap.size + 1, 0, none⟩ _ (Kd.C_below hC hbel) hc hcl)
 have HB := Aside0.mk hbel
 clear hC hbel hsz hcl
 go_enter Tryz.func91, Tryz.ntmps91
 go_wp2_with (go_at_call 138; refine HI.out.mono ?_; rintro e w1 ⟨rfl, hb1⟩)
 go_ret
 exact ⟨rfl, below_step HB.out hb1⟩
theorem eqlIn_nil (d c : Nat) (w : World) : (Op.equalIn (d + 1) 89 (.slice none 0 c) (.slice none 0 0)).run Tryz.prog w = .ok true w := by
 have hu := Tryz.underlying89
 simp [Op.equalIn, run_underlying hu]
theorem eqlIn_some (d : Nat) (a : Addr) (n c : Nat) (w : World) : (Op.equalIn (d + 1) 89 (.slice (some a) n c) (.slice none 0 0)).run Tryz.prog w = .ok false w := by
 have hu := Tryz.underlying89
 simp [Op.equalIn, run_underlying hu]
theorem equal_nil (c : Nat) (w : World) : (Op.equal 89 (.slice none 0 c) (.slice none 0 0)).run Tryz.prog w = .ok true w := eqlIn_nil 9999 c w
theorem equal_some (a : Addr) (n c : Nat) (w : World) : (Op.equal 89 (.slice (some a) n c) (.slice none 0 0)).run Tryz.prog w = .ok false w := eqlIn_some 9999 a n c w
theorem eql_nil (c : Nat) (w : World) : (Go.binOp .eql 89 (.slice none 0 c) (.slice none 0 0)).run Tryz.prog w = .ok (.bool true) w := by
 simp only [binOp]
 simp [equal_nil c w]
theorem eql_some (a : Addr) (n c : Nat) (w : World) : (Go.binOp .eql 89 (.slice (some a) n c) (.slice none 0 0)).run Tryz.prog w = .ok (.bool false) w := by
 simp only [binOp]
 simp [equal_some a n c w]
def api_Value.f (l : List S64) : Option (List S64) := if l.length < 4398046511104 then some l else none
set_option maxRecDepth 100000 in
theorem api_Value.calls (A0 : Option Addr) (c0 : Nat) (l0 : List S64) (r : List S64) (w : World) (hr0 : Kd.C k64 w A0 l0.length l0) (hc0 : l0.length ≤ c0) (h : api_Value.f l0 = some r) :
  Calls Tryz.prog 71 #[.slice A0 l0.length c0] w fun e w' => ∃ v0_ : Value, e = .returned (v0_) ∧ Kd.R k64 87 w' w.heap.size (fun _ => True) v0_ r ∧ Below w.heap.size w w' := by
 unfold api_Value.f at h
 split at h
 case isFalse => cases h
 rename_i hlen
 obtain rfl := Option.some.inj h
 have HR0 := Aside0.mk hr0
 have HLEN := Aside0.mk hlen
 have HB := Aside0.mk (Below.refl w.heap.size w)
 cases A0 with
 | none =>
  have hl0 : l0 = [] := by
   cases l0 with
   | nil => rfl
   | cons x l =>
    obtain ⟨ad, hh, _⟩ := hr0.2.2 (by simp)
    cases hh
  subst hl0
  clear hr0 hlen h
  have heq := eql_nil
  go_enter Tryz.func71, Tryz.ntmps71
  go_wp2
  go_ret
  exact ⟨_, rfl, Kd.R_nil _ _ _ _ _, HB.out⟩
 | some a =>
  clear hr0 hlen h
  have heq := eql_some
  go_enter Tryz.func71, Tryz.ntmps71
  go_wp2_with (first
   | ((with_reducible refine gate_dst (N := 5) rfl ?_); refine Kd.R_lit k64 _ 87 ?hg (N := 5) ?hd (xs := ([] : List (S64))) (inner := []) (ok := fun _ => True) (okp := fun _ => True) ?hr ?hp (fun _ hk => hk) trivial (Below.refl _ _) (Nat.le_refl _) (by simp) ?_; (case hd => rfl); (case hg => rfl); (case hr => first | (go_simp; done) | (go_simp; rfl)); (case hp => exact (Reps.none _ _)); intro v5 w6 ho7 hb hg_ hnew_; clear hg_ hnew_; have HO5 := Aside0.mk (Kd.R_lower ho7 (below_size HB.out)); have n2_ := Aside0.mk (below_step HB.out hb); clear HB; have HB := n2_; clear n2_ hb ho7)
   | ((with_reducible refine gate_builtin (b := .append) (xs := #[.tmp 5, .tmp 6]) rfl ?_); at_builtin; refine Kd.R_append_rows k64 (w0 := w) w.heap.size rfl (.tmp 5) (.tmp 6) 89 87 (.agg #[(.int .u8 0), (.int .i64 0), (.string ⟨#[]⟩)]) 32 rfl Tryz.underlying89 info87 rfl (by decide) (by omega) v5 [] l0 _ _ _ (fun _ => True) (fun _ => False) rfl rfl ?aO ?aR (fun _ _ h => h) (fun _ h => h.elim) ?aF ?aB ?aS ?aL ?_; (case aR => exact Kd.C_below HR0.out HB.out); (case aB => exact HB.out); (case aF => exact (fun _ _ => trivial)); (case aO => exact HO5.out); (case aS => exact below_size HB.out); (case aL => have := HLEN.out; simp; omega); intro v7 w8 ho hb hg hat; have HO7 := Aside0.mk ho; have HB8 := Aside0.mk hb; clear ho hb hg hat))
  go_ret
  exact ⟨_, rfl, by simpa using HO7.out, HB8.out⟩
theorem clCols_eqlIn_nil (d c : Nat) (w : World) : (Op.equalIn (d + 1) 67 (.slice none 0 c) (.slice none 0 0)).run Tryz.prog w = .ok true w := by
 have hu := Tryz.underlying67
 simp [Op.equalIn, run_underlying hu]
theorem clCols_eqlIn_some (d : Nat) (a : Addr) (n c : Nat) (w : World) : (Op.equalIn (d + 1) 67 (.slice (some a) n c) (.slice none 0 0)).run Tryz.prog w = .ok false w := by
 have hu := Tryz.underlying67
 simp [Op.equalIn, run_underlying hu]
theorem clCols_eql_nil (c : Nat) (w : World) : (Go.binOp .eql 67 (.slice none 0 c) (.slice none 0 0)).run Tryz.prog w = .ok (.bool true) w := by
 have h : (Op.equal 67 (.slice none 0 c) (.slice none 0 0)).run Tryz.prog w = .ok true w := clCols_eqlIn_nil 9999 c w
 simp only [binOp]
 simp [h]
theorem clCols_eql_some (a : Addr) (n c : Nat) (w : World) : (Go.binOp .eql 67 (.slice (some a) n c) (.slice none 0 0)).run Tryz.prog w = .ok (.bool false) w := by
 have h : (Op.equal 67 (.slice (some a) n c) (.slice none 0 0)).run Tryz.prog w = .ok false w := clCols_eqlIn_some 9999 a n c w
 simp only [binOp]
 simp [h]
set_option maxRecDepth 100000 in
theorem clCols_walk (A0 : Option Addr) (c0 : Nat) (l0 : List S78) (w : World) (hr0 : Kd.C k78 w A0 l0.length l0) (hc0 : l0.length ≤ c0) (hlen : l0.length < 3000000000000) :
  Calls Tryz.prog 84 #[.slice A0 l0.length c0] w fun e w' => ∃ v0_ : Value, e = .returned (v0_) ∧ Kd.R k78 83 w' w.heap.size (fun _ => True) v0_ l0 ∧ Below w.heap.size w w' := by
 have HR0 := Aside0.mk hr0
 have HLEN := Aside0.mk hlen
 have HB := Aside0.mk (Below.refl w.heap.size w)
 cases A0 with
 | none =>
  have hl0 : l0 = [] := by
   cases l0 with
   | nil => rfl
   | cons x l =>
    obtain ⟨ad, hh, _⟩ := hr0.2.2 (by simp)
    cases hh
  subst hl0
  clear hr0 hlen
  have heq := clCols_eql_nil
  go_enter Tryz.func84, Tryz.ntmps84
  go_wp2
  go_ret
  exact ⟨_, rfl, Kd.R_nil _ _ _ _ _, HB.out⟩
 | some a =>
  clear hr0 hlen
  have heq := clCols_eql_some
  go_enter Tryz.func84, Tryz.ntmps84
  go_wp2_with (first
   | ((with_reducible refine gate_dst (N := 5) rfl ?_); refine Kd.R_lit k78 _ 83 ?hg (N := 5) ?hd (xs := ([] : List (S78))) (inner := []) (ok := fun _ => True) (okp := fun _ => True) ?hr ?hp (fun _ hk => hk) trivial (Below.refl _ _) (Nat.le_refl _) (by simp) ?_; (case hd => rfl); (case hg => rfl); (case hr => first | (go_simp; done) | (go_simp; rfl)); (case hp => exact (Reps.none _ _)); intro v5 w6 ho7 hb hg_ hnew_; clear hg_ hnew_; have HO5 := Aside0.mk (Kd.R_lower ho7 (below_size HB.out)); have n2_ := Aside0.mk (below_step HB.out hb); clear HB; have HB := n2_; clear n2_ hb ho7)
   | ((with_reducible refine gate_builtin (b := .append) (xs := #[.tmp 5, .tmp 6]) rfl ?_); at_builtin; refine Kd.R_append_rows k78 (w0 := w) w.heap.size rfl (.tmp 5) (.tmp 6) 67 83 (.agg #[(.string ⟨#[]⟩), (.int .u8 0), (.bool false), (.int .i64 0), (.int .i64 0)]) 40 rfl Tryz.underlying67 info83 rfl (by decide) (by omega) v5 [] l0 _ _ _ (fun _ => True) (fun _ => False) rfl rfl ?aO ?aR (fun _ _ h => h) (fun _ h => h.elim) ?aF ?aB ?aS ?aL ?_; (case aR => exact Kd.C_below HR0.out HB.out); (case aB => exact HB.out); (case aF => exact (fun _ _ => trivial)); (case aO => exact HO5.out); (case aS => exact below_size HB.out); (case aL => have := HLEN.out; simp; omega); intro v7 w8 ho hb hg hat; have HO7 := Aside0.mk ho; have HB8 := Aside0.mk hb; clear ho hb hg hat))
  go_ret
  exact ⟨_, rfl, by simpa using HO7.out, HB8.out⟩
theorem clInts_eqlIn_nil (d c : Nat) (w : World) : (Op.equalIn (d + 1) 70 (.slice none 0 c) (.slice none 0 0)).run Tryz.prog w = .ok true w := by
 have hu := Tryz.underlying70
 simp [Op.equalIn, run_underlying hu]
theorem clInts_eqlIn_some (d : Nat) (a : Addr) (n c : Nat) (w : World) : (Op.equalIn (d + 1) 70 (.slice (some a) n c) (.slice none 0 0)).run Tryz.prog w = .ok false w := by
 have hu := Tryz.underlying70
 simp [Op.equalIn, run_underlying hu]
theorem clInts_eql_nil (c : Nat) (w : World) : (Go.binOp .eql 70 (.slice none 0 c) (.slice none 0 0)).run Tryz.prog w = .ok (.bool true) w := by
 have h : (Op.equal 70 (.slice none 0 c) (.slice none 0 0)).run Tryz.prog w = .ok true w := clInts_eqlIn_nil 9999 c w
 simp only [binOp]
 simp [h]
theorem clInts_eql_some (a : Addr) (n c : Nat) (w : World) : (Go.binOp .eql 70 (.slice (some a) n c) (.slice none 0 0)).run Tryz.prog w = .ok (.bool false) w := by
 have h : (Op.equal 70 (.slice (some a) n c) (.slice none 0 0)).run Tryz.prog w = .ok false w := clInts_eqlIn_some 9999 a n c w
 simp only [binOp]
 simp [h]
set_option maxRecDepth 100000 in
theorem clInts_walk (A0 : Option Addr) (c0 : Nat) (l0 : List Int) (w : World) (hr0 : Kd.C (Kd.int .i64) w A0 l0.length l0) (hc0 : l0.length ≤ c0) (hlen : l0.length < 17000000000000) :
  Calls Tryz.prog 86 #[.slice A0 l0.length c0] w fun e w' => ∃ v0_ : Value, e = .returned (v0_) ∧ Kd.R (Kd.int .i64) 3 w' w.heap.size (fun _ => True) v0_ l0 ∧ Below w.heap.size w w' := by
 have HR0 := Aside0.mk hr0
 have HLEN := Aside0.mk hlen
 have HB := Aside0.mk (Below.refl w.heap.size w)
 cases A0 with
 | none =>
  have hl0 : l0 = [] := by
   cases l0 with
   | nil => rfl
   | cons x l =>
    obtain ⟨ad, hh, _⟩ := hr0.2.2 (by simp)
    cases hh
  subst hl0
  clear hr0 hlen
  have heq := clInts_eql_nil
  go_enter Tryz.func86, Tryz.ntmps86
  go_wp2
  go_ret
  exact ⟨_, rfl, Kd.R_nil _ _ _ _ _, HB.out⟩
 | some a =>
  clear hr0 hlen
  have heq := clInts_eql_some
  go_enter Tryz.func86, Tryz.ntmps86
  go_wp2_with (first
   | ((with_reducible refine gate_dst (N := 5) rfl ?_); refine Kd.R_lit (Kd.int .i64) _ 3 ?hg (N := 5) ?hd (xs := ([] : List (Int))) (inner := []) (ok := fun _ => True) (okp := fun _ => True) ?hr ?hp (fun _ hk => hk) trivial (Below.refl _ _) (Nat.le_refl _) (by simp) ?_; (case hd => rfl); (case hg => rfl); (case hr => first | (go_simp; done) | (go_simp; rfl)); (case hp => exact (Reps.none _ _)); intro v5 w6 ho7 hb hg_ hnew_; clear hg_ hnew_; have HO5 := Aside0.mk (Kd.R_lower ho7 (below_size HB.out)); have n2_ := Aside0.mk (below_step HB.out hb); clear HB; have HB := n2_; clear n2_ hb ho7)
   | ((with_reducible refine gate_builtin (b := .append) (xs := #[.tmp 5, .tmp 6]) rfl ?_); at_builtin; refine Kd.R_append_rows (Kd.int .i64) (w0 := w) w.heap.size rfl (.tmp 5) (.tmp 6) 70 3 (.int .i64 0) 8 rfl Tryz.underlying70 info3 rfl (by decide) (by omega) v5 [] l0 _ _ _ (fun _ => True) (fun _ => False) rfl rfl ?aO ?aR (fun _ _ h => h) (fun _ h => h.elim) ?aF ?aB ?aS ?aL ?_; (case aR => exact Kd.C_below HR0.out HB.out); (case aB => exact HB.out); (case aF => exact (fun _ _ => trivial)); (case aO => exact HO5.out); (case aS => exact below_size HB.out); (case aL => have := HLEN.out; simp; omega); intro v7 w8 ho hb hg hat; have HO7 := Aside0.mk ho; have HB8 := Aside0.mk hb; clear ho hb hg hat))
  go_ret
  exact ⟨_, rfl, by simpa using HO7.out, HB8.out⟩
theorem clRefs_eqlIn_nil (d c : Nat) (w : World) : (Op.equalIn (d + 1) 69 (.slice none 0 c) (.slice none 0 0)).run Tryz.prog w = .ok true w := by
 have hu := Tryz.underlying69
 simp [Op.equalIn, run_underlying hu]
theorem clRefs_eqlIn_some (d : Nat) (a : Addr) (n c : Nat) (w : World) : (Op.equalIn (d + 1) 69 (.slice (some a) n c) (.slice none 0 0)).run Tryz.prog w = .ok false w := by
 have hu := Tryz.underlying69
 simp [Op.equalIn, run_underlying hu]
theorem clRefs_eql_nil (c : Nat) (w : World) : (Go.binOp .eql 69 (.slice none 0 c) (.slice none 0 0)).run Tryz.prog w = .ok (.bool true) w := by
 have h : (Op.equal 69 (.slice none 0 c) (.slice none 0 0)).run Tryz.prog w = .ok true w := clRefs_eqlIn_nil 9999 c w
 simp only [binOp]
 simp [h]
theorem clRefs_eql_some (a : Addr) (n c : Nat) (w : World) : (Go.binOp .eql 69 (.slice (some a) n c) (.slice none 0 0)).run Tryz.prog w = .ok (.bool false) w := by
 have h : (Op.equal 69 (.slice (some a) n c) (.slice none 0 0)).run Tryz.prog w = .ok false w := clRefs_eqlIn_some 9999 a n c w
 simp only [binOp]
 simp [h]
set_option maxRecDepth 100000 in
theorem clRefs_walk (A0 : Option Addr) (c0 : Nat) (l0 : List (List Value)) (w : World) (hr0 : Kd.C (Kd.raw 3) w A0 l0.length l0) (hc0 : l0.length ≤ c0) (hlen : l0.length < 3000000000000) :
  Calls Tryz.prog 87 #[.slice A0 l0.length c0] w fun e w' => ∃ v0_ : Value, e = .returned (v0_) ∧ Kd.R (Kd.raw 3) 75 w' w.heap.size (fun _ => True) v0_ l0 ∧ Below w.heap.size w w' := by
 have HR0 := Aside0.mk hr0
 have HLEN := Aside0.mk hlen
 have HB := Aside0.mk (Below.refl w.heap.size w)
 cases A0 with
 | none =>
  have hl0 : l0 = [] := by
   cases l0 with
   | nil => rfl
   | cons x l =>
    obtain ⟨ad, hh, _⟩ := hr0.2.2 (by simp)
    cases hh
  subst hl0
  clear hr0 hlen
  have heq := clRefs_eql_nil
  go_enter Tryz.func87, Tryz.ntmps87
  go_wp2
  go_ret
  exact ⟨_, rfl, Kd.R_nil _ _ _ _ _, HB.out⟩
 | some a =>
  clear hr0 hlen
  have heq := clRefs_eql_some
  go_enter Tryz.func87, Tryz.ntmps87
  go_wp2_with (first
   | ((with_reducible refine gate_dst (N := 5) rfl ?_); refine Kd.R_lit (Kd.raw 3) _ 75 ?hg (N := 5) ?hd (xs := ([] : List ((List Value)))) (inner := []) (ok := fun _ => True) (okp := fun _ => True) ?hr ?hp (fun _ hk => hk) trivial (Below.refl _ _) (Nat.le_refl _) (by simp) ?_; (case hd => rfl); (case hg => rfl); (case hr => first | (go_simp; done) | (go_simp; rfl)); (case hp => exact (Reps.none _ _)); intro v5 w6 ho7 hb hg_ hnew_; clear hg_ hnew_; have HO5 := Aside0.mk (Kd.R_lower ho7 (below_size HB.out)); have n2_ := Aside0.mk (below_step HB.out hb); clear HB; have HB := n2_; clear n2_ hb ho7)
   | ((with_reducible refine gate_builtin (b := .append) (xs := #[.tmp 5, .tmp 6]) rfl ?_); at_builtin; refine Kd.R_append_rows (Kd.raw 3) (w0 := w) w.heap.size rfl (.tmp 5) (.tmp 6) 69 75 (.agg #[(.slice none 0 0), (.int .i64 0), (.int .i64 0)]) 40 rfl Tryz.underlying69 info75 rfl (by decide) (by omega) v5 [] l0 _ _ _ (fun _ => True) (fun _ => False) rfl rfl ?aO ?aR (fun _ _ h => h) (fun _ h => h.elim) ?aF ?aB ?aS ?aL ?_; (case aR => exact Kd.C_below HR0.out HB.out); (case aB => exact HB.out); (case aF => exact (fun _ _ => trivial)); (case aO => exact HO5.out); (case aS => exact below_size HB.out); (case aL => have := HLEN.out; simp; omega); intro v7 w8 ho hb hg hat; have HO7 := Aside0.mk ho; have HB8 := Aside0.mk hb; clear ho hb hg hat))
  go_ret
  exact ⟨_, rfl, by simpa using HO7.out, HB8.out⟩
end Go.Proofs.YthgfdnffnbclpaaGreatDoor.PAll
