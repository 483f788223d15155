/- Plain laws that the statements of layer 2 share: the example, two lists of tokens that are the same, what Tokens returns. -/
import Derived.Test.YtaibkpbiccibjaaDoorLAwake
import Derived.Test.YtaibkpbiccibjaaDoorLFe
set_option linter.unusedVariables false
namespace Go.Proofs.YtaibkpbiccibjaaDoor.PAll
open Go.RowKit Go.Proofs.YtaibkpbiccibjaaDoorW.PrintWords Go.Proofs.YtaibkpbiccibjaaDoorW.PrintLast Go.Proofs.YtaibkpbiccibjaaDoorW.PrintMore

theorem awake_true : jointerlaw02_awake.f = some true := by decide +kernel

theorem wrap_nat (n : Nat) (h : n < 4611686018427387904) : wrap64 ((n : Int) + 1) = ((n + 1 : Nat) : Int) := by unfold wrap64; omega
theorem bt_nat {s : ByteArray} {i : Nat} (h : i < s.size) : bt s (i : Int) = (s[i].toNat : Int) := by
  unfold bt
  simp [h]
theorem rdT {xs : List S33} {i : Nat} (h : i < xs.length) : rd_T33 xs (i : Int) = xs[i] := by
  unfold rd_T33
  simp [List.getD, h]

theorem SameTokens_l0 (a b : List S33) (hlen : b.length = a.length) (h : ∀ i (hi : i < a.length) (hj : i < b.length), a[i].f0 = b[i].f0 ∧ a[i].f1.toList = b[i].f1.toList) (hl : a.length < 4611686018427387904) :
    ∀ (d i k : Nat), i + d = a.length → d < k → jointerref02_SameTokens.l0 k a b (i : Int) = some true := by
  intro d
  induction d with
  | zero =>
    intro i k hi hk
    obtain ⟨k, rfl⟩ : ∃ m, k = m + 1 := ⟨k - 1, by omega⟩
    rw [jointerref02_SameTokens.l0, if_neg (by omega)]
  | succ d ih =>
    intro i k hi hk
    obtain ⟨k, rfl⟩ : ∃ m, k = m + 1 := ⟨k - 1, by omega⟩
    have h1 : i < a.length := by omega
    have h2 : i < b.length := by omega
    obtain ⟨e1, e2⟩ := h i h1 h2
    rw [jointerref02_SameTokens.l0, if_pos (by omega), if_pos (by omega), if_pos (by omega), rdT h1, rdT h2, if_pos e1, if_pos e2, wrap_nat i (by omega)]
    exact ih (i + 1) k (by omega) (by omega)
theorem same_l0 (a b : List S33) (dd : Int) (hlen : b.length = a.length) (h : ∀ i (hi : i < a.length) (hj : i < b.length), b[i].f2 = wrap64 (a[i].f2 + dd)) (hl : a.length < 4611686018427387904) :
    ∀ (d i k : Nat), i + d = a.length → d < k → jointerlaw02_same.l0 k a b dd (i : Int) = some true := by
  intro d
  induction d with
  | zero =>
    intro i k hi hk
    obtain ⟨k, rfl⟩ : ∃ m, k = m + 1 := ⟨k - 1, by omega⟩
    rw [jointerlaw02_same.l0, if_neg (by omega)]
  | succ d ih =>
    intro i k hi hk
    obtain ⟨k, rfl⟩ : ∃ m, k = m + 1 := ⟨k - 1, by omega⟩
    have h1 : i < a.length := by omega
    have h2 : i < b.length := by omega
    have e1 := h i h1 h2
    rw [jointerlaw02_same.l0, if_pos (by omega), if_pos (by omega), if_pos (by omega), rdT h1, rdT h2, if_pos e1, wrap_nat i (by omega)]
    exact ih (i + 1) k (by omega) (by omega)
def shiftS (d : Int) (x : S33) : S33 := ⟨x.f0, x.f1, x.f2 + d⟩
theorem same_true (a : List S33) (dd : Int) (h : ∀ x ∈ a, wrap64 (x.f2 + dd) = x.f2 + dd) (hl : a.length < 4611686018427387904) (k : Nat) (hk : a.length < k) : jointerlaw02_same.f k a (a.map (shiftS dd)) dd = some true := by
  have e1 := SameTokens_l0 a (a.map (shiftS dd)) (by simp) (fun i hi hj => by rw [List.getElem_map]; exact ⟨rfl, rfl⟩) hl a.length 0 k (by omega) hk
  have e2 := same_l0 a (a.map (shiftS dd)) dd (by simp) (fun i hi hj => by rw [List.getElem_map, h _ (List.getElem_mem hi)]; rfl) hl a.length 0 k (by omega) hk
  unfold jointerlaw02_same.f jointerref02_SameTokens.f
  rw [if_pos (by simp)]
  rw [show ((0 : Nat) : Int) = (0 : Int) from rfl] at e1 e2
  rw [e1, Option.bind_some, if_pos rfl, e2]

/-! ### What all tokens are -/
theorem toks_pos (k : Nat) : ∀ (p : Nat) (l : List UInt8) (ts : List (Int × List UInt8 × Nat)), Lx.toks isKw marksL k p l = .good ts → ts.length ≤ l.length ∧ ∀ x ∈ ts, x.2.2 ≤ p + l.length := by
  induction k with
  | zero => intro p l ts h; simp [Lx.toks] at h; subst h; simp
  | succ k ih =>
    intro p l ts h
    have hsk := Lx.skip_le l false
    rw [Lx.toks] at h
    cases hl : l.drop (Lx.skipC false l) with
    | nil => rw [hl] at h; simp at h; subst h; simp
    | cons b r =>
      rw [hl] at h
      simp only at h
      cases ht : Lx.tokL isKw marksL (b :: r) with
      | bad e => rw [ht] at h; cases h
      | good kd t n =>
        rw [ht] at h
        simp only at h
        cases hr : Lx.toks isKw marksL k (p + Lx.skipC false l + n) ((b :: r).drop n) with
        | bad a e => rw [hr] at h; cases h
        | good ts' =>
          rw [hr] at h
          simp only [Lx.Tks.cons] at h
          cases h
          have h1 := Lx.tokL_pos marks_ne ht
          have h2 : (b :: r).length + Lx.skipC false l = l.length := by rw [← hl]; simp; omega
          obtain ⟨g1, g2⟩ := ih _ _ _ hr
          rw [List.length_drop] at g1 g2
          refine ⟨by simp only [List.length_cons] at *; omega, ?_⟩
          intro x hx
          rcases List.mem_cons.1 hx with rfl | hx
          · simp only; omega
          · have := g2 x hx; simp only [List.length_cons] at *; omega
end Go.Proofs.YtaibkpbiccibjaaDoor.PAll
