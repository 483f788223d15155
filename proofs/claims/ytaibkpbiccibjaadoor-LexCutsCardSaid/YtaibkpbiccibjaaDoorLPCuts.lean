/- LexCuts without Go and memory: a source that ends before one of its tokens has the tokens before it. -/
import Derived.Test.YtaibkpbiccibjaaDoorLPBase
import Derived.Test.YtaibkpbiccibjaaDoorLLCuts
set_option linter.unusedVariables false
namespace Go.Proofs.YtaibkpbiccibjaaDoor.PAll
open Go.RowKit Go.Proofs.YtaibkpbiccibjaaDoorW.PrintWords Go.Proofs.YtaibkpbiccibjaaDoorW.PrintLast Go.Proofs.YtaibkpbiccibjaaDoorW.PrintMore

theorem cuts_awake (k : Nat) (a0 : ByteArray) (a1 : Int) (l : List S33) : jointerlaw02_LexCuts.j0 (k + 1) a0 a1 l true = some true := by
  rw [jointerlaw02_LexCuts.j0, if_pos rfl, awake_true, Option.bind_some]
theorem shift_zero (l : List S33) : l.map (shiftS 0) = l := by
  have : (shiftS 0) = id := by
    funext x
    unfold shiftS
    rw [Int.add_zero]
    rfl
  rw [this, List.map_id]
theorem toks_bad (k : Nat) : ∀ (p : Nat) (l : List UInt8) (a : Nat) (e : Int), Lx.toks isKw marksL k p l = .bad a e → e ≠ 0 := by
  induction k with
  | zero => intro p l a e h; simp [Lx.toks] at h
  | succ k ih =>
    intro p l a e h
    rw [Lx.toks] at h
    cases hl : l.drop (Lx.skipC false l) with
    | nil => rw [hl] at h; simp at h
    | cons b r =>
      rw [hl] at h
      simp only at h
      cases ht : Lx.tokL isKw marksL (b :: r) with
      | bad e' => rw [ht] at h; cases h; exact tokL_bad ht
      | good kd t n =>
        rw [ht] at h
        simp only at h
        cases hr : Lx.toks isKw marksL k (p + Lx.skipC false l + n) ((b :: r).drop n) with
        | bad a' e' => rw [hr] at h; simp only [Lx.Tks.cons] at h; cases h; exact ih _ _ _ _ hr
        | good ts' => rw [hr] at h; simp only [Lx.Tks.cons] at h; cases h

theorem LexCuts : jointerlaw02_LexCuts.Pure := by
  intro a0 a1 h0 h1
  by_cases hbig : 4000 < a0.size
  · refine ⟨1, ?_⟩
    have hT : tokensR a0 = ([], 0, 2) := by unfold tokensR; rw [if_pos hbig]
    unfold jointerlaw02_LexCuts.f
    rw [lex_Tokens.f, Option.bind_some, hT, if_neg (by decide)]
    exact cuts_awake 0 _ _ _
  · cases ht : Lx.toks isKw marksL (a0.size + 1) 0 a0.data.toList with
    | bad p e =>
      refine ⟨1, ?_⟩
      have hT : tokensR a0 = ([], (p : Int), e) := by unfold tokensR; rw [if_neg hbig, ht]
      unfold jointerlaw02_LexCuts.f
      rw [lex_Tokens.f, Option.bind_some, hT, if_neg (toks_bad _ _ _ _ _ ht)]
      exact cuts_awake 0 _ _ _
    | good ts =>
      have hT : tokensR a0 = (ts.map toS, 0, 0) := by unfold tokensR; rw [if_neg hbig, ht]
      obtain ⟨hlen, hpos⟩ := toks_pos _ _ _ _ ht
      have hal : a0.data.toList.length = a0.size := by simp
      refine ⟨ts.length + 3, ?_⟩
      unfold jointerlaw02_LexCuts.f
      rw [lex_Tokens.f, Option.bind_some, hT, if_pos rfl]
      simp only
      by_cases hn : a1 < 0
      · rw [if_pos hn]; exact cuts_awake _ _ _ _
      rw [if_neg hn]
      by_cases hg : a1 ≥ ((ts.map toS).length : Int)
      · rw [decide_eq_true hg]; exact cuts_awake _ _ _ _
      rw [decide_eq_false hg]
      obtain ⟨j, hj⟩ := Int.eq_ofNat_of_zero_le (by omega : 0 ≤ a1)
      subst hj
      have hjl : j < ts.length := by rw [List.length_map] at hg; omega
      have hjm : j < (ts.map toS).length := by rw [List.length_map]; exact hjl
      obtain ⟨g1, g2, g3⟩ := Lx.toks_cut isKw marksL marks_ne _ _ _ ts j ts[j] ht (List.getElem?_eq_getElem hjl)
      rw [jointerlaw02_LexCuts.j0, if_neg (by decide), if_pos (by omega), if_pos (by omega), rdT hjm]
      have hf2 : ((ts.map toS)[j]).f2 = ((ts[j].2.2 : Nat) : Int) := by rw [List.getElem_map]; rfl
      rw [hf2, if_neg (by omega)]
      rw [decide_eq_false (by omega)]
      rw [jointerlaw02_LexCuts.j1, if_neg (by decide), if_pos (by omega), if_pos (by omega)]
      rw [show ((ts[j].2.2 : Nat) : Int).toNat = ts[j].2.2 by omega]
      have hex : (a0.extract 0 ts[j].2.2).data.toList = a0.data.toList.take ts[j].2.2 := by rw [extract_list']; simp
      have hes : (a0.extract 0 ts[j].2.2).size = ts[j].2.2 := by
        have : (a0.extract 0 ts[j].2.2).data.toList.length = ts[j].2.2 := by rw [hex, List.length_take]; omega
        simpa using this
      have hT2 : tokensR (a0.extract 0 ts[j].2.2) = ((ts.take j).map toS, 0, 0) := by
        unfold tokensR
        rw [if_neg (by omega), hex, hes]
        rw [Lx.toks_fuel isKw marksL marks_ne (ts[j].2.2 + 1) (a0.size + 1) _ _ (by rw [List.length_take]; omega) (by rw [List.length_take]; omega)]
        rw [Nat.sub_zero] at g3
        rw [g3]
      rw [lex_Tokens.f, Option.bind_some, hT2, if_pos rfl, if_pos (by omega), if_pos (by omega)]
      simp only
      rw [show ((j : Nat) : Int).toNat = j by omega]
      have e1 : ((ts.take j).map toS) = ((ts.map toS).take j).map (shiftS 0) := by rw [shift_zero, List.map_take]
      rw [e1, same_true _ 0 ?_ (by rw [List.length_take, List.length_map]; omega) _ (by rw [List.length_take, List.length_map]; omega), Option.bind_some, if_pos rfl, awake_true, Option.bind_some]
      intro x hx
      obtain ⟨y, hy, rfl⟩ := List.mem_map.1 (List.mem_of_mem_take hx)
      have := hpos y hy
      show wrap64 ((y.2.2 : Int) + 0) = (y.2.2 : Int) + 0
      unfold wrap64
      omega
end Go.Proofs.YtaibkpbiccibjaaDoor.PAll
