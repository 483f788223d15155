/- LexAgain without Go and memory: the tokens of a source, joined, are those tokens. -/
import Derived.Test.YtaibkpbiccibjaaDoorLPRefA
import Derived.Test.YtaibkpbiccibjaaDoorLLAgain
set_option linter.unusedVariables false
namespace Go.Proofs.YtaibkpbiccibjaaDoor.PAll
open Go.RowKit Go.Proofs.YtaibkpbiccibjaaDoorW.PrintWords Go.Proofs.YtaibkpbiccibjaaDoorW.PrintLast Go.Proofs.YtaibkpbiccibjaaDoorW.PrintMore

theorem all_bytes {p : UInt8 → Prop} (h : ∀ n : Fin 256, p (UInt8.ofNat n.val)) (b : UInt8) : p b := by
  have := h ⟨b.toNat, b.toNat_lt⟩
  simpa using this
theorem low_let (b : UInt8) : (!Lx.isLet b || Lx.isLet (Lx.low b)) = true := all_bytes (p := fun b => (!Lx.isLet b || Lx.isLet (Lx.low b)) = true) (by decide +kernel) b
theorem low_word (b : UInt8) : (!Lx.isWord b || (Lx.isWord (Lx.low b) && !(decide (65 ≤ (Lx.low b).toNat) && decide ((Lx.low b).toNat ≤ 90)))) = true := all_bytes (p := fun b => (!Lx.isWord b || (Lx.isWord (Lx.low b) && !(decide (65 ≤ (Lx.low b).toNat) && decide ((Lx.low b).toNat ≤ 90)))) = true) (by decide +kernel) b
theorem up_low (b : UInt8) : Lx.up (Lx.low b) = Lx.up b := all_bytes (p := fun b => Lx.up (Lx.low b) = Lx.up b) (by decide +kernel) b

theorem kw_ok : Lx.KwOk isKw := ⟨fun l h => kw_upper l h⟩
theorem kw_short : ∀ l : List UInt8, isKw l = true → l.length ≤ 4000 := by
  have h : kwsL.all (fun l => decide (l.length ≤ 4000)) = true := by decide +kernel
  intro l hl
  unfold isKw at hl
  rw [List.contains_iff_mem] at hl
  have := List.all_eq_true.1 h l hl
  simpa using this
theorem marks_ok : ∀ t ∈ marksL, ∀ R, Lx.Sep (5, t) R → Lx.skipC false (t ++ R) = 0 ∧ Lx.tokL isKw marksL (t ++ R) = .good 5 t t.length := by
  intro t ht R hS
  simp only [marksL, List.mem_cons, List.not_mem_nil, or_false] at ht
  rcases ht with rfl | rfl | rfl | rfl | rfl | rfl | rfl | rfl | rfl | rfl | rfl | rfl | rfl | rfl | rfl | rfl | rfl <;>
  rcases hS with rfl | ⟨_, h | h⟩ | ⟨c, r, rfl, rfl | rfl | rfl | rfl | rfl⟩ <;>
  first
  | exact ⟨rfl, rfl⟩
  | exact absurd h (by decide)

theorem tokL_ok {l : List UInt8} (h4 : l.length ≤ 4000) {kd : Int} {t : List UInt8} {n : Nat} (h : Lx.tokL isKw marksL l = .good kd t n) : Lx.tokOk isKw marksL (kd, t) = true := by
  unfold Lx.tokOk
  simp only [Bool.or_eq_true, Bool.and_eq_true, decide_eq_true_eq]
  cases l with
  | nil => cases h
  | cons b r =>
    unfold Lx.tokL at h
    simp only at h
    by_cases hL : Lx.isLet b = true
    · rw [if_pos hL] at h
      have hw : (b :: r).takeWhile Lx.isWord = b :: r.takeWhile Lx.isWord := by
        rw [List.takeWhile_cons, if_pos (by unfold Lx.isWord; rw [hL]; rfl)]
      have hall : ∀ c ∈ (b :: r).takeWhile Lx.isWord, Lx.isWord c = true := fun c hc => mem_takeWhile Lx.isWord _ c hc
      rw [hw] at h hall
      generalize r.takeWhile Lx.isWord = w at *
      by_cases hk : isKw ((b :: w).map Lx.up) = true
      · rw [if_pos hk] at h
        cases h
        exact .inl (.inl (.inl (.inl ⟨rfl, hk⟩)))
      · rw [if_neg hk] at h
        by_cases h20 : 20 < (b :: w).length
        · rw [if_pos h20] at h; cases h
        · rw [if_neg h20] at h
          cases h
          refine .inl (.inl (.inl (.inr ⟨rfl, ?_⟩)))
          unfold Lx.isNm
          have e1 : ((b :: w).map Lx.low).map Lx.up = (b :: w).map Lx.up := by
            rw [List.map_map]
            exact List.map_congr_left fun c _ => up_low c
          rw [e1]
          rw [Bool.not_eq_true] at hk
          rw [hk]
          have e2 : ((b :: w).map Lx.low).all (fun b => Lx.isWord b && !(decide (65 ≤ b.toNat) && decide (b.toNat ≤ 90))) = true := by
            rw [List.all_eq_true]
            intro c hc
            obtain ⟨d, hd, rfl⟩ := List.mem_map.1 hc
            have := low_word d
            rw [hall d hd] at this
            simpa using this
          rw [e2, List.length_map, decide_eq_true (by omega : (b :: w).length ≤ 20)]
          have e3 := low_let b
          rw [hL] at e3
          simpa using e3
    · rw [if_neg hL] at h
      by_cases hD : Lx.isDig b = true
      · rw [if_pos hD] at h
        have hw : (b :: r).takeWhile Lx.isDig = b :: r.takeWhile Lx.isDig := by rw [List.takeWhile_cons, if_pos hD]
        have hall : ∀ c ∈ (b :: r).takeWhile Lx.isDig, Lx.isDig c = true := fun c hc => mem_takeWhile Lx.isDig _ c hc
        have hlen : ((b :: r).takeWhile Lx.isDig).length ≤ (b :: r).length := (List.takeWhile_prefix _).length_le
        by_cases hn : 9223372036854775808 < Lx.numD ((b :: r).takeWhile Lx.isDig)
        · rw [if_pos hn] at h; cases h
        · rw [if_neg hn] at h
          split at h
          · cases h
          · cases h
            refine .inl (.inl (.inr ⟨rfl, ⟨⟨?_, ?_⟩, ?_⟩, ?_⟩))
            · rw [hw]; rfl
            · rw [List.all_eq_true]; exact hall
            · omega
            · omega
      · rw [if_neg hD] at h
        by_cases h39 : b.toNat = 39
        · rw [if_pos h39] at h
          cases hq : Lx.quo r with
          | none => rw [hq] at h; cases h
          | some x =>
            rw [hq] at h
            simp only at h
            by_cases h100 : 100 < x.1.length
            · rw [if_pos h100] at h; cases h
            · rw [if_neg h100] at h
              cases h
              exact .inl (.inr ⟨rfl, by omega⟩)
        · rw [if_neg h39] at h
          cases hf : marksL.find? (fun m => m.isPrefixOf (b :: r)) with
          | none => rw [hf] at h; cases h
          | some m =>
            rw [hf] at h
            cases h
            exact .inr ⟨rfl, by rw [List.contains_iff_mem]; exact List.mem_of_find?_eq_some hf⟩
theorem toks_ok (k : Nat) : ∀ (p : Nat) (l : List UInt8) (ts : List (Int × List UInt8 × Nat)), l.length ≤ 4000 → Lx.toks isKw marksL k p l = .good ts → ∀ x ∈ ts, Lx.tokOk isKw marksL (x.1, x.2.1) = true := by
  induction k with
  | zero => intro p l ts h4 h; simp [Lx.toks] at h; subst h; simp
  | succ k ih =>
    intro p l ts h4 h
    rw [Lx.toks] at h
    cases hl : l.drop (Lx.skipC false l) with
    | nil => rw [hl] at h; simp at h; subst h; simp
    | cons b r =>
      rw [hl] at h
      simp only at h
      have hlen : (b :: r).length ≤ 4000 := by rw [← hl, List.length_drop]; omega
      cases ht : Lx.tokL isKw marksL (b :: r) with
      | bad e => rw [ht] at h; cases h
      | good kd t n =>
        rw [ht] at h
        simp only at h
        cases hr : Lx.toks isKw marksL k (p + Lx.skipC false l + n) ((b :: r).drop n) with
        | bad a e => rw [hr] at h; cases h
        | good ts' =>
          rw [hr] at h
          simp only [Lx.Tks.cons] at h
          cases h
          intro x hx
          rcases List.mem_cons.1 hx with rfl | hx
          · exact tokL_ok hlen ht
          · exact ih _ _ _ (by rw [List.length_drop]; omega) hr x hx

/-- A token's text is not long. -/
theorem ok_len {x : Int × List UInt8} (h : Lx.tokOk isKw marksL x = true) : x.2.length ≤ 4000 := by
  unfold Lx.tokOk at h
  simp only [Bool.or_eq_true, Bool.and_eq_true, decide_eq_true_eq] at h
  rcases h with (((⟨_, h⟩ | ⟨_, h⟩) | ⟨_, h⟩) | ⟨_, h⟩) | ⟨_, h⟩
  · exact kw_short _ h
  · have := (Lx.isNm_parts h).2.1; omega
  · exact h.1.2
  · omega
  · have hm : ∀ m ∈ marksL, m.length ≤ 4000 := by decide
    exact hm _ (List.contains_iff_mem.1 h)

def pr (x : S33) : Int × List UInt8 := (x.f0, x.f1.data.toList)
theorem txt_written (x : S33) : (txtB x).data.toList = Lx.written (pr x) := by
  unfold txtB Lx.written pr
  by_cases h : x.f0 = 4
  · rw [if_pos h, if_pos h, PQ.replaceAll_qt, ByteArray.data_append, ByteArray.data_append]
    simp
  · rw [if_neg h, if_neg h]
theorem ok_valid (x : S33) (h : Lx.tokOk isKw marksL (pr x) = true) : okP x = true := by
  have hsl : x.f1.data.toList.length = x.f1.size := by simp
  have h4 := ok_len h
  obtain ⟨h1, h2⟩ := Lx.tok_written kw_ok marks_ok (pr x) h [] (.inl rfl)
  unfold okP validR
  by_cases hk : x.f0 = 4
  · rw [if_pos hk]
    unfold Lx.tokOk pr at h
    simp [hk] at h
    simpa using h
  · have hw : Lx.written (pr x) = x.f1.data.toList := by unfold Lx.written pr; rw [if_neg hk]
    rw [List.append_nil, hw] at h1 h2
    rw [if_neg hk]
    have h0 : 0 < x.f1.size := by
      rw [← hsl]
      cases hl : x.f1.data.toList with
      | nil => rw [hl] at h2; cases h2
      | cons b r => exact Nat.succ_pos _
    have h44 : ¬ 4000 < x.f1.size := by unfold pr at h4; simp only at h4; omega
    rw [dif_pos h0, if_neg h44]
    have e0 := drop_at h0
    rw [List.drop_zero] at e0
    have hc : cls x.f1[0] ≠ 1 := by
      intro hc
      have hb := ((cls_let x.f1[0]).2.2.2).1 hc
      rw [e0, Lx.skipC, if_pos hb] at h1
      omega
    rw [if_neg hc, h2]
    show (decide (x.f1.data.toList.length = x.f1.size) && decide (x.f0 = x.f0) && decide (x.f1.data.toList = x.f1.data.toList)) = true
    rw [hsl]
    simp

theorem contains_marks : ∀ m ∈ marksL, Lib.contains [44, 41, 46, 59] m = (decide (m = [44]) || decide (m = [41]) || decide (m = [46]) || decide (m = [59])) := by decide +kernel
theorem mark_text {x : S33} (h : Lx.tokOk isKw marksL (pr x) = true) (h5 : x.f0 = 5) : x.f1.data.toList ∈ marksL := by
  unfold Lx.tokOk pr at h
  simp [h5] at h
  exact h
theorem join_same : ∀ (l : List S33) (g : Bool) (a : Option (Int × List UInt8)), (∀ x ∈ l, Lx.tokOk isKw marksL (pr x) = true) →
    (match a with | none => g = true | some a => g = (decide (a.1 = 5) && (decide (a.2 = [40]) || decide (a.2 = [46])))) → joinP g l = Lx.joinF a (l.map pr)
  | [], g, a, _, _ => by cases a <;> rfl
  | x :: l, g, a, hall, hg => by
    have hx := hall x (by simp)
    have hgl : glueP x = (decide ((pr x).1 = 5) && (decide ((pr x).2 = [40]) || decide ((pr x).2 = [46]))) := by
      unfold glueP
      by_cases h5 : x.f0 = 5
      · have : (txtB x).data.toList = (pr x).2 := by unfold txtB pr; rw [if_neg (by omega)]
        rw [this]; rfl
      · rw [decide_eq_false h5]
        show _ = (decide (x.f0 = 5) && _)
        rw [decide_eq_false h5]; rfl
    have ih := join_same l (glueP x) (some (pr x)) (fun y hy => hall y (by simp [hy])) hgl
    rw [joinP, ih, List.map_cons, txt_written]
    cases a with
    | none =>
      rw [Lx.joinF]
      have : sepP g x = false := by unfold sepP; rw [show g = true from hg]; rfl
      rw [this, if_neg (by decide)]
      simp
    | some a =>
      rw [Lx.joinF]
      have hs : sepP g x = !Lx.near a (pr x) := by
        unfold sepP Lx.near
        rw [show g = (decide (a.1 = 5) && (decide (a.2 = [40]) || decide (a.2 = [46]))) from hg, Bool.not_or]
        congr 1
        show (!(decide (x.f0 = 5) && _)) = !(decide (x.f0 = 5) && _)
        by_cases h5 : x.f0 = 5
        · have : (txtB x).data.toList = (pr x).2 := by unfold txtB pr; rw [if_neg (by omega)]
          rw [this]
          exact congrArg (fun q => !(decide (x.f0 = 5) && q)) (contains_marks _ (mark_text hx h5))
        · rw [decide_eq_false h5]; rfl
      rw [hs]
      cases Lx.near a (pr x) <;> simp

theorem joinF_len : ∀ (l : List (Int × List UInt8)) (a : Option (Int × List UInt8)), (∀ x ∈ l, Lx.tokOk isKw marksL x = true) → (Lx.joinF a l).length ≤ l.length * 9000
  | [], a, _ => by cases a <;> simp [Lx.joinF]
  | x :: l, a, hall => by
    have ih := joinF_len l (some x) (fun y hy => hall y (by simp [hy]))
    have h4 := ok_len (hall x (by simp))
    have hw : (Lx.written x).length ≤ 8002 := by
      unfold Lx.written
      split
      · have := PQ.qt_len2 x.2
        simp; omega
      · omega
    have hj : (Lx.joinF a (x :: l)).length ≤ 1 + (Lx.written x).length + (Lx.joinF (some x) l).length := by
      cases a with
      | none => rw [Lx.joinF, List.length_append]; omega
      | some a =>
        rw [Lx.joinF, List.length_append, List.length_append]
        split <;> simp <;> omega
    rw [List.length_cons]
    omega

theorem resP_same (l m : List S33) (h : l.map pr = m.map pr) : resP l = resP m := by
  have h1 : ∀ l : List S33, l.all okP = (l.map pr).all (fun q => validR q.1 ⟨q.2.toArray⟩) := by
    intro l
    rw [List.all_map]
    congr 1
  have h2 : ∀ (l m : List S33) (g : Bool), l.map pr = m.map pr → joinP g l = joinP g m := by
    intro l
    induction l with
    | nil => intro m g h; cases m with | nil => rfl | cons => simp at h
    | cons x l ih =>
      intro m g h
      cases m with
      | nil => simp at h
      | cons y m =>
        rw [List.map_cons, List.map_cons] at h
        obtain ⟨e1, e2⟩ := List.cons.inj h
        unfold pr at e1
        have f0 : x.f0 = y.f0 := congrArg Prod.fst e1
        have f1 : x.f1 = y.f1 := by
          apply ByteArray.ext
          exact Array.toList_inj.1 (congrArg Prod.snd e1)
        have ft : txtB x = txtB y := by unfold txtB; rw [f0, f1]
        have fs : sepP g x = sepP g y := by unfold sepP; rw [f0, ft]
        have fg : glueP x = glueP y := by unfold glueP; rw [f0, ft]
        rw [joinP, joinP, fs, ft, fg, ih m _ e2]
  unfold resP
  rw [h1 l, h1 m, h, h2 l m true h]

theorem toks_bad (k : Nat) : ∀ (p : Nat) (l : List UInt8) (a : Nat) (e : Int), Lx.toks isKw marksL k p l = .bad a e → e ≠ 0 := by
  induction k with
  | zero => intro p l a e h; simp [Lx.toks] at h
  | succ k ih =>
    intro p l a e h
    rw [Lx.toks] at h
    cases hl : l.drop (Lx.skipC false l) with
    | nil => rw [hl] at h; simp at h
    | cons b r =>
      rw [hl] at h
      simp only at h
      cases ht : Lx.tokL isKw marksL (b :: r) with
      | bad e' => rw [ht] at h; cases h; exact tokL_bad ht
      | good kd t n =>
        rw [ht] at h
        simp only at h
        cases hr : Lx.toks isKw marksL k (p + Lx.skipC false l + n) ((b :: r).drop n) with
        | bad a' e' => rw [hr] at h; simp only [Lx.Tks.cons] at h; cases h; exact ih _ _ _ _ hr
        | good ts' => rw [hr] at h; simp only [Lx.Tks.cons] at h; cases h

theorem LexAgain : jointerlaw02_LexAgain.Pure := by
  intro a0 h0
  refine ⟨5000, ?_⟩
  unfold jointerlaw02_LexAgain.f
  rw [lex_Tokens.f, Option.bind_some]
  by_cases he : (tokensR a0).2.2 = 0
  · rw [if_pos he]
    have hs : a0.size ≤ 4000 := by
      apply Nat.le_of_not_lt
      intro hb
      unfold tokensR at he
      rw [if_pos hb] at he
      exact absurd he (by decide)
    have hsl : a0.data.toList.length = a0.size := by simp
    obtain ⟨ts, ht⟩ : ∃ ts, Lx.toks isKw marksL (a0.size + 1) 0 a0.data.toList = .good ts := by
      cases ht : Lx.toks isKw marksL (a0.size + 1) 0 a0.data.toList with
      | good ts => exact ⟨ts, rfl⟩
      | bad p e =>
        unfold tokensR at he
        rw [if_neg (by omega), ht] at he
        exact absurd he (toks_bad _ _ _ _ _ ht)
    have hR : tokensR a0 = (ts.map toS, 0, 0) := by unfold tokensR; rw [if_neg (by omega), ht]
    have hpos := (toks_pos _ _ _ _ ht).1
    have hok := toks_ok _ _ _ _ (by omega) ht
    have hokl : ∀ x ∈ ts.map toS, Lx.tokOk isKw marksL (pr x) = true := by
      intro x hx
      obtain ⟨y, hy, rfl⟩ := List.mem_map.1 hx
      exact hok y hy
    have hJ := join_same (ts.map toS) true none hokl rfl
    have hall : (ts.map toS).all okP = true := by
      rw [List.all_eq_true]
      exact fun x hx => ok_valid x (hokl x hx)
    have hokp : ∀ x ∈ (ts.map toS).map pr, Lx.tokOk isKw marksL x = true := by
      intro x hx
      obtain ⟨y, hy, rfl⟩ := List.mem_map.1 hx
      exact hokl y hy
    have hlen := joinF_len _ none hokp
    rw [List.length_map, List.length_map] at hlen
    have hcond : ∀ m : List S33, m.map pr = (ts.map toS).map pr → lex_Join.f m = some (resP (ts.map toS)) := by
      intro m hm
      have hmo : ∀ x ∈ m, Lx.tokOk isKw marksL (pr x) = true := fun x hx => hokp _ (by rw [← hm]; exact List.mem_map_of_mem hx)
      have hl : m.length = ts.length := by have := congrArg List.length hm; simpa using this
      unfold lex_Join.f
      rw [if_pos ⟨by omega, by rw [join_same m true none hmo rfl, hm]; omega⟩, resP_same _ _ hm]
    rw [hR]
    simp only
    rw [hcond _ rfl, Option.bind_some]
    unfold resP
    rw [hall, if_pos rfl, hJ]
    by_cases hbig : 4000 < (Lx.joinF none ((ts.map toS).map pr)).length
    · rw [if_pos hbig, if_neg (by decide), if_pos rfl, awake_true, Option.bind_some]
    · rw [if_neg hbig]
      simp only
      rw [if_pos trivial]
      obtain ⟨ts2, h1, h2⟩ := Lx.toks_join kw_ok marks_ne marks_ok ((ts.map toS).map pr) none ((Lx.joinF none ((ts.map toS).map pr)).length + 1) 0 hokp (by omega)
      have hR2 : tokensR ⟨(Lx.joinF none ((ts.map toS).map pr)).toArray⟩ = (ts2.map toS, 0, 0) := by
        have hz : (⟨(Lx.joinF none ((ts.map toS).map pr)).toArray⟩ : ByteArray).size = (Lx.joinF none ((ts.map toS).map pr)).length := by
          show (Lx.joinF none ((ts.map toS).map pr)).toArray.size = _
          simp
        unfold tokensR
        rw [hz, if_neg hbig]
        show (match Lx.toks isKw marksL _ 0 (Lx.joinF none ((ts.map toS).map pr)) with | .bad p e => ([], (p : Int), e) | .good ts => (ts.map toS, 0, 0)) = _
        rw [h1]
      have hpm : (ts2.map toS).map pr = (ts.map toS).map pr := by rw [← h2, List.map_map]; rfl
      have hl2 : ts2.length = ts.length := by have := congrArg List.length hpm; simpa using this
      rw [lex_Tokens.f, Option.bind_some, hR2]
      simp only
      rw [hcond _ hpm, Option.bind_some]
      have hres : resP (ts.map toS) = (⟨(Lx.joinF none ((ts.map toS).map pr)).toArray⟩, 0) := by unfold resP; rw [hall, if_pos rfl, hJ, if_neg hbig]
      rw [hres]
      simp only
      rw [if_pos trivial]
      have hst : jointerref02_SameTokens.f 5000 (ts.map toS) (ts2.map toS) = some true := by
        have e1 := SameTokens_l0 (ts.map toS) (ts2.map toS) (by rw [List.length_map, List.length_map, hl2]) ?_ (by rw [List.length_map]; omega) (ts.map toS).length 0 5000 (by omega) (by rw [List.length_map]; omega)
        · unfold jointerref02_SameTokens.f
          rw [if_pos (by rw [List.length_map, List.length_map, hl2])]
          exact e1
        · intro i hi hj
          have ea : Option.map pr (ts2.map toS)[i]? = Option.map pr (ts.map toS)[i]? := by rw [← List.getElem?_map, ← List.getElem?_map, hpm]
          rw [List.getElem?_eq_getElem hj, List.getElem?_eq_getElem hi] at ea
          have eb := Option.some.inj (show some (pr (ts2.map toS)[i]) = some (pr (ts.map toS)[i]) from ea)
          exact ⟨(congrArg Prod.fst eb).symm, by rw [Lib.toList_data, Lib.toList_data]; exact (congrArg Prod.snd eb).symm⟩
      rw [hst, Option.bind_some, if_pos trivial, if_pos trivial, awake_true, Option.bind_some, if_pos rfl]
  · rw [if_neg he, awake_true, Option.bind_some]
end Go.Proofs.YtaibkpbiccibjaaDoor.PAll
