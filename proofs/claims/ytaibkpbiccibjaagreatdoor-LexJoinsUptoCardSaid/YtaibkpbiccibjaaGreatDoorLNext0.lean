/- The scanner of layer 2: what lies in memory while the next token is made. -/
import Derived.Test.YtaibkpbiccibjaaGreatDoorLText
import Derived.Test.YtaibkpbiccibjaaGreatDoorLKw
import Derived.Test.YtaibkpbiccibjaaGreatDoorLFits
set_option linter.unusedVariables false
namespace Go.Proofs.YtaibkpbiccibjaaGreatDoor.PAll
open Go.RowKit Go.Proofs.YtaibkpbiccibjaaGreatDoorW.PrintWords Go.Proofs.YtaibkpbiccibjaaGreatDoorW.PrintLast Go.Proofs.YtaibkpbiccibjaaGreatDoorW.PrintMore

/-- The marks, the longer ones first. -/
def marksL : List (List UInt8) := [[60, 62], [60, 61], [62, 61], [124, 124], [40], [41], [44], [46], [59], [42], [43], [45], [47], [37], [61], [60], [62]]

/-- What lies in memory while next works: the box of the scanner's address, the token under way, the scanner. -/
structure NX (w0 w W : World) (g : Nat) (s : ByteArray) (a : Int) (k : Int) (t : ByteArray) (p : Int) : Prop where
  box : W.heap[w.heap.size]? = some (.cells #[.pointer (some ⟨g, 0, none⟩)] 64 (0, 0))
  tok : W.heap[w.heap.size + 1]? = some (.cells #[.int .u8 k, .string t, .int .i64 p] 34 (0, 0))
  sc : IsS43 w0 W g s a
  bel : Below w0.heap.size w0 W
  keep : KeepBut w W g none
  lt : g < w.heap.size

section
variable {w0 w W : World} {g : Nat} {s : ByteArray} {a k p : Int} {t : ByteArray}
theorem NX.below {W' : World} (h : NX w0 w W g s a k t p) (hb : Below W.heap.size W W') : NX w0 w W' g s a k t p :=
  ⟨blk_below h.box hb, blk_below h.tok hb, h.sc.below hb, h.bel.trans (Below.mono hb h.bel.size), KeepBut.trans h.keep (KeepBut.of_below hb g none) (.inl rfl), h.lt⟩
theorem NX.drewN (h : NX w0 w W g s a k t p) (n : Nat) : NX w0 w (W.drewN n) g s a k t p := h.below (pw_below_drewN (Below.refl _ _) n)
theorem NX.alloc (h : NX w0 w W g s a k t p) (o : Obj) : NX w0 w (W.alloc o) g s a k t p := h.below (below_alloc (Below.refl _ _) o)
theorem NX.c0 (h : NX w0 w W g s a k t p) : W.cell? ⟨w.heap.size, 0, none⟩ = some (.pointer (some ⟨g, 0, none⟩)) := (blk_cell h.box 0).trans rfl
theorem NX.t0 (h : NX w0 w W g s a k t p) : W.cell? ⟨w.heap.size + 1, 0, none⟩ = some (.int .u8 k) := (blk_cell h.tok 0).trans rfl
theorem NX.t1 (h : NX w0 w W g s a k t p) : W.cell? ⟨w.heap.size + 1, 1, none⟩ = some (.string t) := (blk_cell h.tok 1).trans rfl
theorem NX.t2 (h : NX w0 w W g s a k t p) : W.cell? ⟨w.heap.size + 1, 2, none⟩ = some (.int .i64 p) := (blk_cell h.tok 2).trans rfl
theorem NX.tf (h : NX w0 w W g s a k t p) (j : Nat) : W.frozen? ⟨w.heap.size + 1, j, none⟩ = false := blk_frozen h.tok j
theorem NX.s0 (h : NX w0 w W g s a k t p) : W.cell? ⟨g, 0, none⟩ = some (.string s) := cellS43_0 h.sc.1
theorem NX.s1 (h : NX w0 w W g s a k t p) : W.cell? ⟨g, 1, none⟩ = some (.int .i64 a) := cellS43_1 h.sc.1
theorem NX.sf (h : NX w0 w W g s a k t p) (j : Nat) : W.frozen? ⟨g, j, none⟩ = false := blk_frozen h.sc.1 j
theorem NX.base (h : NX w0 w W g s a k t p) : w0.heap.size ≤ w.heap.size := Nat.le_trans h.sc.2 (Nat.le_of_lt h.lt)
theorem NX.setTok (h : NX w0 w W g s a k t p) (j : Nat) (u : Value) (k' : Int) (t' : ByteArray) (p' : Int) (e : (#[.int .u8 k, .string t, .int .i64 p] : Array Value).setIfInBounds j u = #[.int .u8 k', .string t', .int .i64 p']) :
    NX w0 w (W.setCell ⟨w.heap.size + 1, j, none⟩ u) g s a k' t' p' := by
  have hne : g ≠ w.heap.size + 1 := by have := h.lt; omega
  refine ⟨blk_far h.box (by show w.heap.size ≠ w.heap.size + 1; omega) u, blk_put h.tok j u e, h.sc.far hne u, below_set h.bel (by have := h.base; omega), ?_, h.lt⟩
  exact keep_far h.keep (by show w.heap.size ≤ w.heap.size + 1; omega) u
theorem NX.setK (h : NX w0 w W g s a k t p) (k' : Int) : NX w0 w (W.setCell ⟨w.heap.size + 1, 0, none⟩ (.int .u8 k')) g s a k' t p := h.setTok 0 _ _ _ _ rfl
theorem NX.setT (h : NX w0 w W g s a k t p) (t' : ByteArray) : NX w0 w (W.setCell ⟨w.heap.size + 1, 1, none⟩ (.string t')) g s a k t' p := h.setTok 1 _ _ _ _ rfl
theorem NX.setP (h : NX w0 w W g s a k t p) (p' : Int) : NX w0 w (W.setCell ⟨w.heap.size + 1, 2, none⟩ (.int .i64 p')) g s a k t p' := h.setTok 2 _ _ _ _ rfl
theorem NX.at_ (h : NX w0 w W g s a k t p) (a' : Int) : NX w0 w (W.setCell ⟨g, 1, none⟩ (.int .i64 a')) g s a' k t p := by
  refine ⟨blk_far h.box (by show w.heap.size ≠ g; have := h.lt; omega) _, blk_far h.tok (by show w.heap.size + 1 ≠ g; have := h.lt; omega) _, h.sc.set_1 _, below_set h.bel h.sc.2, KeepBut.set_ h.keep 1 _, h.lt⟩
theorem NX.start (hI : IsS43 w0 w g s a) (hB : Below w0.heap.size w0 w) (p : Int) : NX w0 w ((w.alloc (.cells #[.pointer (some ⟨g, 0, none⟩)] 64)).alloc (.cells #[.int .u8 0, .string ⟨#[]⟩, .int .i64 p] 34)) g s a 0 ⟨#[]⟩ p := by
  have hb : Below w.heap.size w ((w.alloc (.cells #[.pointer (some ⟨g, 0, none⟩)] 64)).alloc (.cells #[.int .u8 0, .string ⟨#[]⟩, .int .i64 p] 34)) := below_alloc (below_alloc (Below.refl _ _) _) _
  refine ⟨blk_alloc (blk_new _ _) _, ?_, hI.below hb, hB.trans (Below.mono hb hB.size), KeepBut.of_below hb g none, hI.lt⟩
  have := blk_new (w.alloc (.cells #[.pointer (some ⟨g, 0, none⟩)] 64)) (.cells #[.int .u8 0, .string ⟨#[]⟩, .int .i64 p] 34)
  rwa [World.size_alloc] at this
end

/-- What next returns: the token, the error, and the place behind. -/
def nextR (s : ByteArray) (a0 : Nat) : (Int × ByteArray × Int) × Int × Nat :=
  match Lx.tokL isKw marksL (s.data.toList.drop a0) with
  | .bad e => ((0, ⟨#[]⟩, 0), e, a0)
  | .good kd t n => ((kd, ⟨t.toArray⟩, (a0 : Int)), 0, a0 + n)
theorem inCls_word : inCls [2, 3] = Lx.isWord := by
  funext b
  have h : ∀ n : Fin 256, inCls [2, 3] (UInt8.ofNat n.val) = Lx.isWord (UInt8.ofNat n.val) := by decide +kernel
  have := h ⟨b.toNat, b.toNat_lt⟩
  simpa using this
theorem inCls_dig : inCls [3] = Lx.isDig := by
  funext b
  have h : ∀ n : Fin 256, inCls [3] (UInt8.ofNat n.val) = Lx.isDig (UInt8.ofNat n.val) := by decide +kernel
  have := h ⟨b.toNat, b.toNat_lt⟩
  simpa using this
theorem inCls_let : inCls [2] = Lx.isLet := by
  funext b
  have h : ∀ n : Fin 256, inCls [2] (UInt8.ofNat n.val) = Lx.isLet (UInt8.ofNat n.val) := by decide +kernel
  have := h ⟨b.toNat, b.toNat_lt⟩
  simpa using this
theorem cls_let (b : UInt8) : (cls b = 2 ↔ Lx.isLet b = true) ∧ (cls b = 3 ↔ Lx.isDig b = true) ∧ (cls b = 4 ↔ b.toNat = 39) ∧ (cls b = 1 ↔ Lx.isBl b = true) := by
  have h : ∀ n : Fin 256, (cls (UInt8.ofNat n.val) = 2 ↔ Lx.isLet (UInt8.ofNat n.val) = true) ∧ (cls (UInt8.ofNat n.val) = 3 ↔ Lx.isDig (UInt8.ofNat n.val) = true) ∧ (cls (UInt8.ofNat n.val) = 4 ↔ (UInt8.ofNat n.val).toNat = 39) ∧ (cls (UInt8.ofNat n.val) = 1 ↔ Lx.isBl (UInt8.ofNat n.val) = true) := by decide +kernel
  have := h ⟨b.toNat, b.toNat_lt⟩
  simpa using this
theorem upper_up (b : UInt8) : Lib.upperB b = Lx.up b := by
  have h : ∀ n : Fin 256, Lib.upperB (UInt8.ofNat n.val) = Lx.up (UInt8.ofNat n.val) := by decide +kernel
  have := h ⟨b.toNat, b.toNat_lt⟩
  simpa using this
theorem lower_low (b : UInt8) : Lib.lowerB (Lib.upperB b) = Lx.low b := by
  have h : ∀ n : Fin 256, Lib.lowerB (Lib.upperB (UInt8.ofNat n.val)) = Lx.low (UInt8.ofNat n.val) := by decide +kernel
  have := h ⟨b.toNat, b.toNat_lt⟩
  simpa using this
theorem word_ascii (b : UInt8) (h0 : Lx.isWord b = true) : b.toNat < 128 ∧ (Lx.up b).toNat < 128 := by
  have h : ∀ n : Fin 256, Lx.isWord (UInt8.ofNat n.val) = true → (UInt8.ofNat n.val).toNat < 128 ∧ (Lx.up (UInt8.ofNat n.val)).toNat < 128 := by decide +kernel
  have := h ⟨b.toNat, b.toNat_lt⟩
  have e : UInt8.ofNat b.toNat = b := by simp
  rw [e] at this
  exact this h0
theorem takeWhile_take (p : UInt8 → Bool) : ∀ l : List UInt8, l.take (l.takeWhile p).length = l.takeWhile p
  | [] => rfl
  | b :: r => by
    rw [List.takeWhile_cons]
    split
    · rw [List.length_cons, List.take_succ_cons, takeWhile_take p r]
    · rfl
theorem mem_takeWhile (p : UInt8 → Bool) : ∀ (l : List UInt8) (b : UInt8), b ∈ l.takeWhile p → p b = true
  | [], b, h => by simp at h
  | c :: r, b, h => by
    rw [List.takeWhile_cons] at h
    split at h
    · rename_i hc
      rcases List.mem_cons.1 h with rfl | h
      · exact hc
      · exact mem_takeWhile p r b h
    · simp at h
end Go.Proofs.YtaibkpbiccibjaaGreatDoor.PAll
