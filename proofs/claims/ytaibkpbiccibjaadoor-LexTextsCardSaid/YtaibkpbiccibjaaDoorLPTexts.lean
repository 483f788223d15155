/- LexTexts without Go and memory: the literal of a text is one token with this text. -/
import Derived.Test.YtaibkpbiccibjaaDoorLPBase
import Derived.Test.YtaibkpbiccibjaaDoorLLTexts
set_option linter.unusedVariables false
namespace Go.Proofs.YtaibkpbiccibjaaDoor.PAll
open Go.RowKit Go.Proofs.YtaibkpbiccibjaaDoorW.PrintWords Go.Proofs.YtaibkpbiccibjaaDoorW.PrintLast Go.Proofs.YtaibkpbiccibjaaDoorW.PrintMore

theorem bytes_eq {a b : ByteArray} (h : a.data.toList = b.data.toList) : a = b := by
  apply ByteArray.ext
  exact Array.toList_inj.1 h
theorem app_list (a b : ByteArray) : (a ++ b).data.toList = a.data.toList ++ b.data.toList := by
  rw [ByteArray.data_append]; simp
theorem one_byte {s : ByteArray} {i : Nat} (h : i < s.size) : (s.extract i (i + 1)).data.toList = [s[i]] := by
  rw [extract_list', drop_at h, show i + 1 - i = 1 by omega]
  rfl
theorem size_list (a : ByteArray) : a.size = a.data.toList.length := by simp

theorem quoted_l0 (s : ByteArray) (hs : s.size ≤ 140737488351232) : ∀ (d i k : Nat) (x : ByteArray), i + d = s.size → d < k → x.size + 2 * d ≤ 4611686018427387904 →
    jointerlaw02_quoted.l0 k s x (i : Int) = some ⟨(x.data.toList ++ (Lx.qt (s.data.toList.drop i) ++ [39])).toArray⟩ := by
  intro d
  induction d with
  | zero =>
    intro i k x hi hk hx
    obtain ⟨k, rfl⟩ : ∃ m, k = m + 1 := ⟨k - 1, by omega⟩
    rw [jointerlaw02_quoted.l0, if_neg (by omega), if_pos (by omega)]
    have e : s.data.toList.drop i = [] := List.drop_eq_nil_of_le (by simp; omega)
    rw [e]
    congr 1
  | succ d ih =>
    intro i k x hi hk hx
    obtain ⟨k, rfl⟩ : ∃ m, k = m + 1 := ⟨k - 1, by omega⟩
    have hlt : i < s.size := by omega
    have hone := one_byte hlt
    have hos : (s.extract i (i + 1)).size = 1 := by rw [size_list, hone]; rfl
    rw [jointerlaw02_quoted.l0, if_pos (by omega), if_pos (by omega), bt_nat hlt, wrap_nat i (by omega)]
    rw [show ((i : Nat) : Int).toNat = i by omega, show ((i + 1 : Nat) : Int).toNat = i + 1 by omega]
    rw [drop_at hlt]
    by_cases h : s[i] = 39
    · have h' : ((s[i].toNat : Nat) : Int) = 39 := by rw [h]; rfl
      have hsz : (x ++ (⟨#[39]⟩ : ByteArray)).size = x.size + 1 := by rw [size_list, app_list, List.length_append, ← size_list]; rfl
      have hsz2 : ((x ++ (⟨#[39]⟩ : ByteArray)) ++ s.extract i (i + 1)).size = x.size + 2 := by rw [size_list, app_list, List.length_append, ← size_list, ← size_list, hsz, hos]
      rw [if_pos h', if_pos (by omega), if_pos (by omega), if_pos (by omega), if_pos (by omega), ih (i + 1) k _ (by omega) (by omega) (by omega)]
      rw [app_list, app_list, hone, Lx.qt, if_pos h, h]
      simp
    · have h' : ¬ ((s[i].toNat : Nat) : Int) = 39 := fun e => h (UInt8.toNat_inj.1 (by show s[i].toNat = 39; omega))
      have hsz2 : (x ++ s.extract i (i + 1)).size = x.size + 1 := by rw [size_list, app_list, List.length_append, ← size_list, ← size_list, hos]
      rw [if_neg h', if_pos (by omega), if_pos (by omega), if_pos (by omega), ih (i + 1) k _ (by omega) (by omega) (by omega)]
      rw [app_list, hone, Lx.qt, if_neg h]
      simp
theorem quoted_is (s : ByteArray) (hs : s.size ≤ 140737488351232) (k : Nat) (hk : s.size < k) : jointerlaw02_quoted.f k s = some ⟨(39 :: (Lx.qt s.data.toList ++ [39])).toArray⟩ := by
  unfold jointerlaw02_quoted.f
  have := quoted_l0 s hs s.size 0 k ⟨#[39]⟩ (by omega) hk (by show 1 + _ ≤ _; omega)
  rw [List.drop_zero] at this
  exact this

theorem LexTexts : jointerlaw02_LexTexts.Pure := by
  intro a0 h0
  refine ⟨a0.size + 1, ?_⟩
  unfold jointerlaw02_LexTexts.f
  rw [quoted_is a0 h0 _ (by omega), Option.bind_some]
  obtain ⟨q, hq⟩ : ∃ q : ByteArray, q = ⟨(39 :: (Lx.qt a0.data.toList ++ [39])).toArray⟩ := ⟨_, rfl⟩
  have hql : q.data.toList = 39 :: (Lx.qt a0.data.toList ++ [39]) := by rw [hq]
  rw [← hq]
  rw [lex_Tokens.f, Option.bind_some]
  by_cases hbig : 4000 < q.size
  · have hT : tokensR q = ([], 0, 2) := by unfold tokensR; rw [if_pos hbig]
    rw [hT, if_pos (by omega)]
    simp only
    rw [if_pos trivial, if_pos trivial, if_pos (by rfl), awake_true, Option.bind_some]
  · have hT : tokensR q = if 100 < a0.size then (([] : List S33), (0 : Int), (5 : Int)) else ([toS (4, a0.data.toList, 0)], 0, 0) := by
      unfold tokensR
      have hq1 : 1 ≤ q.size := by rw [size_list, hql]; simp
      have hqs : ∃ m, q.size + 1 = m + 2 := ⟨q.size - 1, by omega⟩
      obtain ⟨m, hm⟩ := hqs
      rw [if_neg hbig, hql, hm, Lx.toks_text, ← size_list]
      by_cases h : 100 < a0.size
      · rw [if_pos h, if_pos h]; rfl
      · rw [if_neg h, if_neg h]; rfl
    rw [hT, if_neg (by omega)]
    by_cases h : 100 < a0.size
    · rw [if_pos h, if_pos (by omega)]
      simp only
      rw [if_pos trivial, if_pos trivial, if_pos (by rfl), awake_true, Option.bind_some]
    · rw [if_neg h, if_neg (by omega)]
      simp only
      rw [if_pos trivial, if_pos (by rfl), if_pos (by simp)]
      have e : rd_T33 [toS (4, a0.data.toList, 0)] 0 = toS (4, a0.data.toList, 0) := rfl
      rw [e]
      rw [if_pos (by rfl), if_pos (by rw [Lib.toList_data, Lib.toList_data]; rfl), if_pos (by rfl), awake_true, Option.bind_some]
end Go.Proofs.YtaibkpbiccibjaaDoor.PAll
