import Derived.Test.YthgfdnffnbclpaaDoorQP04
import Derived.Test.YthgfdnffnbclpaaDoorQP03
import Derived.Lib.ConvBytes
import Derived.Laws.IdiomStrings
set_option linter.unusedVariables false
set_option linter.unusedSimpArgs false
namespace Go.Proofs.YthgfdnffnbclpaaDoor.PAll
open Go.RowKit Go.Shelf Go.Proofs.YthgfdnffnbclpaaDoorW.PrintWords Go.Proofs.YthgfdnffnbclpaaDoorW.PrintLast Go.Proofs.YthgfdnffnbclpaaDoorW.PrintMore
attribute [local go_sem] Oper.semAt_some

theorem cell_new_b (W : World) (v : Value) (t : TypeId) : (W.alloc (.cells #[v] t)).cell? ⟨W.heap.size, 0, none⟩ = some v ∧ (W.alloc (.cells #[v] t)).frozen? ⟨W.heap.size, 0, none⟩ = false := by
  have h := World.alloc_heap_new W (.cells #[v] t)
  exact ⟨by unfold World.cell?; rw [h]; rfl, by unfold World.frozen?; rw [h]; rfl⟩
theorem cell_alloc_b {W : World} {a : Addr} {v : Value} (o : Obj) (h : W.cell? a = some v) : (W.alloc o).cell? a = some v := Go.cell_kept h (World.grownBy_alloc W o none) (fun r e => by cases e)
theorem frozen_alloc_b {W : World} {a : Addr} {v : Value} (o : Obj) (h : W.cell? a = some v) (hf : W.frozen? a = false) : (W.alloc o).frozen? a = false := (Go.frozen_kept h (World.grownBy_alloc W o none) (fun r e => by cases e)).trans hf

theorem KpF.t {n₀ Bs : Nat} {A B C : World} (h : KpF n₀ Bs A B) (k : KpF n₀ Bs B C) : KpF n₀ Bs A C := h.trans k
theorem KpF.b {n₀ Bs : Nat} {w : World} (h : n₀ ≤ w.heap.size) (hb : Bs < w.heap.size) : ∀ (W : World) (l : Nat) (o o' : Obj), w.heap.size ≤ l → W.heap[l]? = some o → o.isCells = false → o.isWalk = false → KpF n₀ Bs W (W.putObj l o') :=
  fun W l o o' hl ho hc hw => ⟨belowK_b h W l o o' hl ho hc hw, (grownBy_putObj' W l o').block Bs (by
    rcases Nat.lt_or_ge l W.heap.size with h1 | h1
    · omega
    · simp [Array.getElem?_eq_none h1] at ho) (fun e => by cases e; omega)⟩

theorem fields_stops (F : Fence) (n : Nat) (h54 : F.fn 92) (hro : F.round = none) (hn : 1 ≤ n) (Bs n₀ : Nat) (s : ByteArray) (hasc : ∀ b ∈ s.data.toList, b.toNat < 128) (hsz : s.size ≤ 4294967296) (w : World) (hB : Bs < w.heap.size) (hn₀ : n₀ ≤ w.heap.size) (h0n : 0 < n₀)
    (hc : w.cell? ⟨Bs, 0, none⟩ = some (.string s)) (hT : ∀ c : Nat, c < 256 → w.cell? ⟨0, c, none⟩ = some (.int .u8 (if c = 9 ∨ c = 10 ∨ c = 11 ∨ c = 12 ∨ c = 13 ∨ c = 32 then 1 else 0))) :
    SeqStopsK F n Tryd.prog 92 #[.pointer (some ⟨Bs, 0, none⟩)] (fun x : ByteArray => #[Value.string x]) (KpF n₀ Bs) (fun ys => ys = pieces s) (fun pre => pre <+: pieces s) (s.size + 1) w := fun l J Jx W hW _ _ hY h0 =>
  fields1_in F n h54 hro hn l Bs n₀ s hasc hsz J Jx hY W ((hW.cell (p := ⟨Bs, 0, none⟩) hB).trans hc) (fun c hcc => (hW.cell (p := ⟨0, c, none⟩) (by show 0 < w.heap.size; omega)).trans (hT c hcc)) h0n h0

set_option maxHeartbeats 1000000 in
theorem fields_mk (s : ByteArray) (w : World) :
    Calls Tryd.prog 83 #[.string s] w fun e w' => e = .returned (.func (.func 92) #[] #[.pointer (some ⟨w.heap.size, 0, none⟩)]) ∧ w' = w.alloc (.cells #[.string s] 9) := by
  go_enter Tryd.func83, Tryd.ntmps83
  go_wp2
  go_ret
  exact ⟨rfl, rfl⟩

theorem kw_pieces : flds [] kwM = kwsL := by decide +kernel
theorem kwC_list : kwC.data.toList = kwM := rfl
theorem mem_pieces (a : ByteArray) (s : ByteArray) : a ∈ pieces s ↔ a.data.toList ∈ flds [] s.data.toList := by
  unfold pieces
  rw [List.mem_map]
  constructor
  · rintro ⟨b, hb, rfl⟩; exact hb
  · intro h; exact ⟨_, h, by cases a; rfl⟩
theorem isKw_mem (a : ByteArray) : isKw a.data.toList = true ↔ a ∈ pieces kwC := by
  rw [mem_pieces, kwC_list, kw_pieces]
  unfold isKw
  exact List.contains_iff_mem

set_option maxRecDepth 100000 in
set_option maxHeartbeats 2000000 in
theorem isKeyword_walk (a0 : ByteArray) (w : World) (hL : LaidL w) :
    Calls Tryd.prog 71 #[.string a0] w fun e W' => e = .returned (.bool (isKw a0.data.toList)) ∧ Below w.heap.size w W' := by
  have hpos : 0 < w.heap.size := (World.block_lt_of_cell? w _ (hL.tab 0 (by decide)) : (⟨0, 0, none⟩ : Addr).block < w.heap.size)
  have hasc : ∀ b ∈ kwC.data.toList, b.toNat < 128 := by
    have : kwC.data.toList.all (fun b => decide (b.toNat < 128)) = true := by decide +kernel
    intro b hb
    exact of_decide_eq_true (List.all_eq_true.1 this b hb)
  refine (callsIn_wide (n := 6)).1 ?_
  refine callsIn_of_wp_marks Tryd.func71 rfl trivial ?_ rfl
  simp only [Tryd.ntmps71, List.size_toArray, List.length_cons, List.length_nil, Nat.reduceAdd, Nat.reduceSub, Array.replicate_succ, Array.replicate_zero, List.push_toArray, List.append_toArray, List.nil_append, List.cons_append]
  simp only [kwC_eq]
  gi_wp2_with (refine ⟨trivial, ?_⟩; gi_at_call 83; refine (callsIn_wide.2 (fields_mk kwC _)).mono ?_; rintro e w' ⟨rfl, rfl⟩)
  have c0 := cell_new_b w (.string a0) 9
  have c1 := cell_new_b (w.alloc (.cells #[.string a0] 9)) (.bool false) 4
  have c2 := cell_new_b ((w.alloc (.cells #[.string a0] 9)).alloc (.cells #[.bool false] 4)) (.string kwC) 9
  simp only [World.size_alloc] at c1 c2
  have hB0 : Below w.heap.size w (((w.alloc (.cells #[.string a0] 9)).alloc (.cells #[.bool false] 4)).alloc (.cells #[.string kwC] 9)) := (((Below.refl _ w).alloc (Nat.le_refl _) _).alloc (by simp) _).alloc (by simp; omega) _
  refine wpIn_rangeFunc_ownF rfl (by omega) (gf := 92) (lb := #[.pointer (some ⟨w.heap.size + 1 + 1, 0, none⟩)]) rfl trivial (enters_of Tryd.func92 (by kernel_rfl) rfl)
    (fields_stops Fence.wide (6 - 1) trivial rfl (by omega) (w.heap.size + 1 + 1) w.heap.size kwC hasc (by rw [kwC_size]; omega) _ (by simp) (by simp; omega) hpos c2.1 (fun c hc => (hB0.cell (p := ⟨0, c, none⟩) hpos).trans (hL.tab c hc))) (fun h k => KpF.t h k) (KpF.b (by simp; omega) (by simp)) (Below.refl _ _) (fun _ => rfl)
    (fun pre W => ((∀ y ∈ pre, y ≠ a0) ∧ W.cell? ⟨w.heap.size, 0, none⟩ = some (.string a0) ∧ W.cell? ⟨w.heap.size + 1, 0, none⟩ = some (.bool false) ∧ W.frozen? ⟨w.heap.size + 1, 0, none⟩ = false) ∧ Below w.heap.size w W)
    (fun c pre W => (c = .ret ∧ a0 ∈ pre ∧ W.cell? ⟨w.heap.size + 1, 0, none⟩ = some (.bool true)) ∧ Below w.heap.size w W)
    (OwnFrom.and (Own.from (fun s A B row hs hg hr => ⟨hs.1, Go.cell_kept hs.2.1 hg hr, Go.cell_kept hs.2.2.1 hg hr, (Go.frozen_kept hs.2.2.1 hg hr).trans hs.2.2.2⟩) _) (ownFrom_below (Nat.le_refl _) (by simp; omega)))
    (fun c => OwnFrom.and (Own.from (fun s A B row hs hg hr => ⟨hs.1, hs.2.1, Go.cell_kept hs.2.2 hg hr⟩) _) (ownFrom_below (Nat.le_refl _) (by simp; omega)))
    ⟨⟨by simp, cell_alloc_b _ (cell_alloc_b _ c0.1), cell_alloc_b _ c1.1, frozen_alloc_b _ c1.1 c1.2⟩, hB0⟩
    (fun x => { tmps := #[.string a0, .pointer (some ⟨w.heap.size, 0, none⟩), .pointer (some ⟨w.heap.size + 1, 0, none⟩), .string x, .func (.func 92) #[] #[.pointer (some ⟨w.heap.size + 1 + 1, 0, none⟩)], .string x, undef, undef, undef], defers := [] }) ?assign ?body ?done ?stop
  case assign =>
    intro l x W K hK
    gi_wp2
    exact hK
  case body =>
    rintro l pre x W ⟨⟨hp, hcw, hcr, hfr⟩, hB⟩ _
    gi_wp2
    · rename_i hx
      have hx' : x = a0 := by
        apply ByteArray.ext
        have e := hx
        first
          | (rw [beq_iff_eq] at e; rw [Lib.toList_data, Lib.toList_data] at e; exact Array.toList_inj.1 e)
          | (rw [Lib.toList_data, Lib.toList_data] at e; exact Array.toList_inj.1 e)
          | (subst e; rfl)
      subst hx'
      exact ⟨KeepsOthers.setCell _ _ _, ⟨rfl, List.mem_append.2 (.inr (by simp)), World.cell?_setCell_same' _ _ _ (by rw [hcr]; rfl)⟩, hB.setCell (p := ⟨w.heap.size + 1, 0, none⟩) (by simp) _⟩
    · rename_i hx
      have hx' : x ≠ a0 := by
        rintro rfl
        simp at hx
      exact ⟨KeepsOthers.refl _, KpF.refl _ _ _, ⟨fun y hy => (List.mem_append.1 hy).elim (hp y) (fun e e' => by simp at e; subst e; exact hx' e'), hcw, hcr, hfr⟩, hB⟩
  case done =>
    rintro D ys W hD rfl ⟨⟨hne, _, hcr, hfr⟩, hB⟩ hK
    have hk : isKw a0.data.toList = false := by
      rw [← Bool.not_eq_true, isKw_mem]
      intro h
      exact hne a0 h rfl
    gi_wp2
    have hK' := (KeepsOthers.setCell W ⟨w.heap.size + 1, 0, none⟩ (.bool false)).same D _ hK rfl
    refine ⟨by simp, .inl ⟨_, _, rfl, run_takeDeferred hK', ?_⟩⟩
    have hc5 := Go.cell_kept (World.cell?_setCell_same' W ⟨w.heap.size + 1, 0, none⟩ (.bool false) (by rw [hcr]; rfl)) (grownBy_putObj' _ D (.deferred none)) (fun r e => by cases e; exact ⟨_, hK', rfl⟩)
    refine ⟨.bool false, ?_, by rw [hk], (hB.setCell (p := ⟨w.heap.size + 1, 0, none⟩) (by simp) _).trans (belowK_b (w := w) (Nat.le_refl _) _ D _ _ (by simp at hD; omega) hK' rfl rfl)⟩
    simp [results, Tryd.f71, go_sem, hc5]
  case stop =>
    rintro D c pre W hD hpre ⟨⟨rfl, hin, hcr⟩, hB⟩ hK
    have hk : isKw a0.data.toList = true := (isKw_mem a0).2 (hpre.subset hin)
    gi_wp2
    refine ⟨by simp, .inl ⟨_, _, rfl, run_takeDeferred hK, ?_⟩⟩
    have hc5 := Go.cell_kept hcr (grownBy_putObj' _ D (.deferred none)) (fun r e => by cases e; exact ⟨_, hK, rfl⟩)
    refine ⟨.bool true, ?_, by rw [hk], hB.trans (belowK_b (w := w) (Nat.le_refl _) W D _ _ (by simp at hD; omega) hK rfl rfl)⟩
    simp [results, Tryd.f71, go_sem, hc5]
end Go.Proofs.YthgfdnffnbclpaaDoor.PAll
namespace Go.Proofs.YthgfdnffnbclpaaDoor.PAll
open Go.RowKit Go.Proofs.YthgfdnffnbclpaaDoorW.PrintWords Go.Proofs.YthgfdnffnbclpaaDoorW.PrintLast Go.Proofs.YthgfdnffnbclpaaDoorW.PrintMore
def lex_IsKeyword.f (a0 : ByteArray) : Option (Bool) := some (isKw a0.data.toList)
theorem lex_IsKeyword.calls (a0 : ByteArray) (r : Bool) (w : World) (h : lex_IsKeyword.f a0 = some r) (hL : LaidL w) :
    Calls Tryd.prog 71 #[.string a0] w fun e w' => e = .returned (.bool r) ∧ Below w.heap.size w w' := by
  obtain rfl := Option.some.inj h
  exact isKeyword_walk a0 w hL
end Go.Proofs.YthgfdnffnbclpaaDoor.PAll
namespace Go.Proofs.YthgfdnffnbclpaaDoor.PAll
open Go.RowKit Go.Proofs.YthgfdnffnbclpaaDoorW.PrintWords Go.Proofs.YthgfdnffnbclpaaDoorW.PrintLast Go.Proofs.YthgfdnffnbclpaaDoorW.PrintMore

def foldB (up : Bool) (b : UInt8) : UInt8 := if up = true then Lx.up b else Lx.low b
def jointerref02_folded.f (a0 : ByteArray) (a1 : Bool) : Option (ByteArray) := if a0.size ≤ 140737488355328 then some ⟨(a0.data.toList.map (foldB a1)).toArray⟩ else none

theorem sget {s : ByteArray} {k : Nat} (h : k < s.size) : s.data.toList[k]? = some s[k] := by
  have h' : k < s.data.toList.length := by simpa using h
  rw [List.getElem?_eq_getElem h']; rfl

set_option maxHeartbeats 8000000 in
set_option maxRecDepth 100000 in
theorem jointerref02_folded.calls (a0 : ByteArray) (a1 : Bool) (r : ByteArray) (w : World) (h : jointerref02_folded.f a0 a1 = some r) :
    Calls Tryd.prog 63 #[.string a0, .bool a1] w fun e w' => e = .returned (.string r) ∧ Below w.heap.size w w' := by
  unfold jointerref02_folded.f at h
  split at h
  case isFalse => cases h
  rename_i hs
  obtain rfl := Option.some.inj h
  clear h
  have hcv := Lib.run_convert_string_bytes (P := Tryd.prog) w 9 111 5 a0 Tryd.underlying9 Tryd.underlying111 Tryd.underlying5
  have hB : ∀ (j : Nat) (hj : j < a0.size), (Lib.bytesWorld w 5 a0).cell? ⟨w.heap.size, j, none⟩ = some (.int .u8 (if j < 0 then foldB a1 a0[j] else a0[j]).toNat) := by
    intro j hj
    rw [Lib.bytesWorld_cell w 5 a0 j hj, if_neg (by omega)]
    have := sget hj
    simp [List.getD, this]
  have hF : ∀ (j : Nat) (hj : j < a0.size), (Lib.bytesWorld w 5 a0).frozen? ⟨w.heap.size, j, none⟩ = false := by
    intro j hj
    have hz : a0.size ≤ (Lib.bytesCells w 5 a0).size := by simp [Lib.bytesCells]
    unfold World.frozen?
    rw [Lib.bytesWorld_at_new]
    simp
    omega
  have hbel : Below w.heap.size w (Lib.bytesWorld w 5 a0) := bytes_below (Below.refl _ _) (Nat.le_refl _) 5 a0
  generalize Lib.bytesWorld w 5 a0 = W1 at *
  generalize grownCap w a0.size 0 5 = cp at *
  have HB := Aside0.mk hB
  have HF := Aside0.mk hF
  have HBL := Aside0.mk hbel
  clear hB hF hbel
  go_enter Tryd.func63, Tryd.ntmps63
  go_wp2
  go_loopg [6] a0.size (fun gk v6 wx => ∃ k : Nat, k + gk = a0.size ∧ v6 = .int .i64 k ∧ Aside0 (∀ (j : Nat) (hj : j < a0.size), wx.cell? ⟨w.heap.size, j, none⟩ = some (.int .u8 (if j < k then foldB a1 a0[j] else a0[j]).toNat)) ∧ Aside0 (∀ (j : Nat) (hj : j < a0.size), wx.frozen? ⟨w.heap.size, j, none⟩ = false) ∧ Aside0 (Below w.heap.size w wx))
  case atStart => exact ⟨0, by omega, rfl, HB, HF, HBL⟩
  case round =>
    clear HB HF HBL hcv
    obtain ⟨k, hk, rfl, HC, HF, HBL⟩ := hrel
    cases gk with
    | zero =>
      have hcb := run_convert_bytes_back (P := Tryd.prog) wr 111 9 5 ⟨w.heap.size, 0, none⟩ cp (a0.data.toList.map (foldB a1)) Tryd.underlying111 Tryd.underlying5 Tryd.underlying9 (fun j hj => by
        have hj' : j < a0.size := by simpa using hj
        have := HC.out j hj'
        rw [if_pos (by omega)] at this
        have e := sget hj'
        have e2 : (a0.data.toList.map (foldB a1))[j] = foldB a1 a0[j] := by
          rw [List.getElem_map]
          congr 1
        rw [e2, show (⟨w.heap.size, 0, none⟩ : Addr).add j = ⟨w.heap.size, j, none⟩ from by by_cases h : j = 0 <;> simp [Addr.add, h]]
        exact this)
      rw [show (a0.data.toList.map (foldB a1)).length = a0.size by simp] at hcb
      generalize hRB : (⟨(a0.data.toList.map (foldB a1)).toArray⟩ : ByteArray) = RB at *
      go_wp2
      go_ret
      exact ⟨by rw [hRB]; rfl, HBL.out⟩
    | succ gk =>
      have hlt : k < a0.size := by omega
      have hc := HC.out k hlt
      rw [if_neg (by omega)] at hc
      have hf := HF.out k hlt
      have hki : (k : Int) < (a0.size : Int) := by omega
      have hki0 : (0 : Int) ≤ (k : Int) := by omega
      have hst : ∀ (u : UInt8), foldB a1 a0[k] = u → Aside0 (∀ (j : Nat) (hj : j < a0.size), (wr.setCell ⟨w.heap.size, k, none⟩ (.int .u8 u.toNat)).cell? ⟨w.heap.size, j, none⟩ = some (.int .u8 (if j < k + 1 then foldB a1 a0[j] else a0[j]).toNat)) := by
        intro u hu
        refine ⟨fun j hj => ?_⟩
        by_cases hjk : j = k
        · subst hjk
          rw [if_pos (by omega), World.cell?_setCell_same' wr _ _ (by rw [hc]; rfl), hu]
        · have hne : (⟨w.heap.size, k, none⟩ : Addr) ≠ ⟨w.heap.size, j, none⟩ := fun e => hjk (by injection e with _ e2; exact e2.symm)
          rw [show (wr.setCell ⟨w.heap.size, k, none⟩ (.int .u8 u.toNat)).cell? ⟨w.heap.size, j, none⟩ = wr.cell? ⟨w.heap.size, j, none⟩ from World.cell?_setCell_other _ _ _ _ hne, HC.out j hj]
          by_cases h1 : j < k
          · rw [if_pos h1, if_pos (by omega)]
          · rw [if_neg h1, if_neg (by omega)]
      have hno : foldB a1 a0[k] = a0[k] → Aside0 (∀ (j : Nat) (hj : j < a0.size), wr.cell? ⟨w.heap.size, j, none⟩ = some (.int .u8 (if j < k + 1 then foldB a1 a0[j] else a0[j]).toNat)) := by
        intro hu
        refine ⟨fun j hj => ?_⟩
        rw [HC.out j hj]
        by_cases h1 : j < k
        · rw [if_pos h1, if_pos (by omega)]
        · rw [if_neg h1]
          by_cases hjk : j = k
          · subst hjk; rw [if_pos (by omega), hu]
          · rw [if_neg (by omega)]
      have hfs : ∀ v, Aside0 (∀ (j : Nat) (hj : j < a0.size), (wr.setCell ⟨w.heap.size, k, none⟩ v).frozen? ⟨w.heap.size, j, none⟩ = false) := fun v => ⟨fun j hj => by rw [World.frozen?_setCell]; exact HF.out j hj⟩
      have hbs : ∀ v, Aside0 (Below w.heap.size w (wr.setCell ⟨w.heap.size, k, none⟩ v)) := fun v => ⟨below_set HBL.out (Nat.le_refl _)⟩
      generalize a0[k] = b at *
      have hb256 := b.toNat_lt
      cases a1 with
      | true =>
        by_cases h1 : 97 ≤ b.toNat
        · by_cases h2 : b.toNat ≤ 122
          · have hu : foldB true b = b - 32 := by simp [foldB, Lx.up, h1, h2]
            have hsub : (b - 32).toNat = b.toNat - 32 := by rw [UInt8.toNat_sub_of_le b 32 (by show (32 : UInt8).toNat ≤ b.toNat; simp; omega)]; rfl
            have H1 := hst (b - 32) hu
            have hw : IntKind.u8.wrap ((b.toNat : Int) - 32) = (((b - 32).toNat : Nat) : Int) := by rw [IntKind.wrap_u8, hsub]; omega
            have i1 : (97 : Int) ≤ (b.toNat : Int) := by omega
            have i2 : (b.toNat : Int) ≤ 122 := by omega
            clear hst hno HC hu hsub
            generalize (b - 32).toNat = bn at *
            go_wp2
            go_roundg gk
            case measure => omega
            case rel => exact ⟨k + 1, by omega, by first | rfl | simp, H1, hfs _, hbs _⟩
          · have H1 := hno (by simp [foldB, Lx.up, h2])
            have i1 : (97 : Int) ≤ (b.toNat : Int) := by omega
            have i2 : ¬ (b.toNat : Int) ≤ 122 := by omega
            clear hst hno HC
            go_wp2
            go_roundg gk
            case measure => omega
            case rel => exact ⟨k + 1, by omega, by first | rfl | simp, H1, HF, HBL⟩
        · have H1 := hno (by simp [foldB, Lx.up, h1])
          have i1 : ¬ (97 : Int) ≤ (b.toNat : Int) := by omega
          clear hst hno HC
          go_wp2
          go_roundg gk
          case measure => omega
          case rel => exact ⟨k + 1, by omega, by first | rfl | simp, H1, HF, HBL⟩
      | false =>
        by_cases h1 : 65 ≤ b.toNat
        · by_cases h2 : b.toNat ≤ 90
          · have hu : foldB false b = b + 32 := by simp [foldB, Lx.low, h1, h2]
            have hsub : (b + 32).toNat = b.toNat + 32 := by rw [UInt8.toNat_add]; show (b.toNat + 32) % 256 = _; omega
            have H1 := hst (b + 32) hu
            have hw : IntKind.u8.wrap ((b.toNat : Int) + 32) = (((b + 32).toNat : Nat) : Int) := by rw [IntKind.wrap_u8, hsub]; omega
            have i1 : (65 : Int) ≤ (b.toNat : Int) := by omega
            have i2 : (b.toNat : Int) ≤ 90 := by omega
            clear hst hno HC hu hsub
            generalize (b + 32).toNat = bn at *
            go_wp2
            go_roundg gk
            case measure => omega
            case rel => exact ⟨k + 1, by omega, by first | rfl | simp, H1, hfs _, hbs _⟩
          · have H1 := hno (by simp [foldB, Lx.low, h2])
            have i1 : (65 : Int) ≤ (b.toNat : Int) := by omega
            have i2 : ¬ (b.toNat : Int) ≤ 90 := by omega
            clear hst hno HC
            go_wp2
            go_roundg gk
            case measure => omega
            case rel => exact ⟨k + 1, by omega, by first | rfl | simp, H1, HF, HBL⟩
        · have H1 := hno (by simp [foldB, Lx.low, h1])
          have i1 : ¬ (65 : Int) ≤ (b.toNat : Int) := by omega
          clear hst hno HC
          go_wp2
          go_roundg gk
          case measure => omega
          case rel => exact ⟨k + 1, by omega, by first | rfl | simp, H1, HF, HBL⟩
end Go.Proofs.YthgfdnffnbclpaaDoor.PAll

