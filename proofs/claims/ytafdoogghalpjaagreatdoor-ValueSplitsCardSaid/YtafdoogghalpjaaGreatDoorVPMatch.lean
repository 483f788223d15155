/- What it is to match a pattern; the program's two cursors find it. -/
import Derived.Test.YtafdoogghalpjaaGreatDoorVFm
import Derived.Test.YtafdoogghalpjaaGreatDoorVPCmp
set_option linter.unusedVariables false
namespace Go.Proofs.YtafdoogghalpjaaGreatDoor.PAll
open Go.RowKit Go.Proofs.YtafdoogghalpjaaGreatDoorW.PrintWords Go.Proofs.YtafdoogghalpjaaGreatDoorW.PrintLast Go.Proofs.YtafdoogghalpjaaGreatDoorW.PrintMore

/-- A text matches a pattern: '%' stands for any text, '_' for any byte, all else for itself. -/
def M : List UInt8 → List UInt8 → Prop
  | t, [] => t = []
  | t, c :: p => if c = 37 then ∃ a b, t = a ++ b ∧ M b p else ∃ x b, t = x :: b ∧ (c = 95 ∨ c = x) ∧ M b p

theorem M_append : ∀ (p q t : List UInt8), M t (p ++ q) ↔ ∃ a b, t = a ++ b ∧ M a p ∧ M b q
  | [], q, t => by
    constructor
    · intro h; exact ⟨[], t, rfl, rfl, h⟩
    · rintro ⟨a, b, rfl, h1, h2⟩
      have h1 : a = [] := h1
      subst h1; exact h2
  | c :: p, q, t => by
    have ih := M_append p q
    simp only [List.cons_append, M]
    by_cases hc : c = 37
    · rw [if_pos hc]
      constructor
      · rintro ⟨a, b, rfl, h⟩
        obtain ⟨a2, b2, rfl, h1, h2⟩ := (ih b).mp h
        refine ⟨a ++ a2, b2, by simp, ?_, h2⟩
        rw [if_pos hc]; exact ⟨a, a2, rfl, h1⟩
      · rintro ⟨a, b, rfl, h1, h2⟩
        rw [if_pos hc] at h1
        obtain ⟨a1, a2, rfl, h1⟩ := h1
        exact ⟨a1, a2 ++ b, by simp, (ih _).mpr ⟨a2, b, rfl, h1, h2⟩⟩
    · rw [if_neg hc]
      constructor
      · rintro ⟨x, b, rfl, hx, h⟩
        obtain ⟨a2, b2, rfl, h1, h2⟩ := (ih b).mp h
        refine ⟨x :: a2, b2, by simp, ?_, h2⟩
        rw [if_neg hc]; exact ⟨x, a2, rfl, hx, h1⟩
      · rintro ⟨a, b, rfl, h1, h2⟩
        rw [if_neg hc] at h1
        obtain ⟨x, a2, rfl, hx, h1⟩ := h1
        exact ⟨x, a2 ++ b, by simp, hx, (ih _).mpr ⟨a2, b, rfl, h1, h2⟩⟩

theorem M_len : ∀ (p t : List UInt8), (∀ c ∈ p, c ≠ 37) → M t p → t.length = p.length
  | [], t, _, h => by have h : t = [] := h; subst h; rfl
  | c :: p, t, hn, h => by
    simp only [M] at h
    rw [if_neg (hn c (by simp))] at h
    obtain ⟨x, b, rfl, _, h⟩ := h
    have := M_len p b (fun c hc => hn c (by simp [hc])) h
    simp [this]
theorem M_nil : ∀ (p : List UInt8), M [] p ↔ ∀ c ∈ p, c = 37
  | [] => by simp [M]
  | c :: p => by
    have ih := M_nil p
    simp only [M]
    by_cases hc : c = 37
    · rw [if_pos hc]
      constructor
      · rintro ⟨a, b, e, h⟩
        have hb : b = [] := by simpa using (List.append_eq_nil_iff.mp e.symm).2
        subst hb
        intro d hd
        rcases List.mem_cons.mp hd with rfl | hd
        · exact hc
        · exact ih.mp h d hd
      · intro h; exact ⟨[], [], rfl, ih.mpr fun d hd => h d (by simp [hd])⟩
    · rw [if_neg hc]
      constructor
      · rintro ⟨x, b, e, _⟩; cases e
      · intro h; exact absurd (h c (by simp)) hc
theorem M_pct (t p : List UInt8) : M t (37 :: p) ↔ ∃ m, m ≤ t.length ∧ M (t.drop m) p := by
  simp only [M, if_true]
  constructor
  · rintro ⟨a, b, rfl, h⟩; exact ⟨a.length, by simp, by simpa using h⟩
  · rintro ⟨m, _, h⟩; exact ⟨t.take m, t.drop m, (List.take_append_drop m t).symm, h⟩
theorem M_one (c : UInt8) (p t : List UInt8) (hc : c ≠ 37) : M t (c :: p) ↔ ∃ x b, t = x :: b ∧ (c = 95 ∨ c = x) ∧ M b p := by
  simp only [M]; rw [if_neg hc]

theorem dropWhile_nil {α : Type} (f : α → Bool) : ∀ l : List α, l.dropWhile f = [] ↔ ∀ x ∈ l, f x = true
  | [] => by simp
  | x :: l => by
    have ih := dropWhile_nil f l
    rw [List.dropWhile_cons]
    split
    · rename_i h; rw [ih]; simp [h]
    · rename_i h; simp; intro h2; exact absurd h2 h
theorem mem_takeWhile_ok {α : Type} (f : α → Bool) : ∀ (l : List α) (x : α), x ∈ l.takeWhile f → f x = true
  | [], x, h => by simp at h
  | y :: l, x, h => by
    rw [List.takeWhile_cons] at h
    split at h
    · rcases List.mem_cons.mp h with rfl | h
      · assumption
      · exact mem_takeWhile_ok f l x h
    · simp at h
theorem mem_dropWhile_ok {α : Type} (f : α → Bool) : ∀ (l : List α) (x : α), x ∈ l.dropWhile f → x ∈ l
  | [], x, h => by simp at h
  | y :: l, x, h => by
    rw [List.dropWhile_cons] at h
    split at h
    · exact List.mem_cons_of_mem _ (mem_dropWhile_ok f l x h)
    · exact h
theorem trim_pct (l : List UInt8) : Lib.trimS l [37] = [] ↔ ∀ c ∈ l, c = 37 := by
  unfold Lib.trimS Lib.trimLeftS
  rw [dropWhile_nil]
  have hf : ∀ x : UInt8, ([(37 : UInt8)].contains x = true) ↔ x = 37 := fun x => by simp
  have hsplit := List.takeWhile_append_dropWhile (p := fun x => [(37 : UInt8)].contains x) (l := l.reverse)
  constructor
  · intro h c hc
    have hc' : c ∈ l.reverse := by simpa using hc
    rw [← hsplit] at hc'
    rcases List.mem_append.mp hc' with h1 | h1
    · exact (hf c).mp (mem_takeWhile_ok _ _ _ h1)
    · exact (hf c).mp (h c (by unfold Lib.trimRightS; simpa using h1))
  · intro h x hx
    rw [hf]
    unfold Lib.trimRightS at hx
    have hx' := mem_dropWhile_ok _ _ _ (List.mem_reverse.mp hx)
    exact h x (List.mem_reverse.mp hx')

/-- Where the two cursors stand, and what that says of the whole. -/
def St (T P : List UInt8) (t p : Nat) (st : Int) (fr : Nat) : Prop :=
  t ≤ T.length ∧ p ≤ P.length ∧ fr ≤ t ∧
  ((st = -1 ∧ fr = 0 ∧ (M T P ↔ M (T.drop t) (P.drop p))) ∨
   (∃ s : Nat, st = (s : Int) ∧ s + 1 ≤ p ∧ t - fr = p - (s + 1) ∧ (∀ c ∈ (P.drop (s + 1)).take (p - (s + 1)), c ≠ 37) ∧
      M ((T.drop fr).take (t - fr)) ((P.drop (s + 1)).take (p - (s + 1))) ∧ (M T P ↔ ∃ m, fr ≤ m ∧ m ≤ T.length ∧ M (T.drop m) (P.drop (s + 1)))))

theorem seg_split (P : List UInt8) (a b : Nat) (h : a ≤ b) : P.drop a = (P.drop a).take (b - a) ++ P.drop b := by
  have := (List.take_append_drop (b - a) (P.drop a)).symm
  rw [List.drop_drop, show a + (b - a) = b by omega] at this
  exact this
theorem seg_any {T P : List UInt8} {s p m : Nat} (h : s + 1 ≤ p) (hp : p ≤ P.length) (hn : ∀ c ∈ (P.drop (s + 1)).take (p - (s + 1)), c ≠ 37) (hM : M (T.drop m) (P.drop (s + 1))) (hm : m ≤ T.length) :
    m + (p - (s + 1)) ≤ T.length ∧ M (T.drop (m + (p - (s + 1)))) (P.drop p) ∧ M ((T.drop m).take (p - (s + 1))) ((P.drop (s + 1)).take (p - (s + 1))) := by
  rw [seg_split P (s + 1) p h] at hM
  obtain ⟨a, b, e, h1, h2⟩ := (M_append _ _ _).mp hM
  have hl := M_len _ _ hn h1
  rw [List.length_take, List.length_drop, Nat.min_eq_left (by omega)] at hl
  have hlen : T.length - m = a.length + b.length := by rw [← List.length_drop, e, List.length_append]
  have ea : (T.drop m).take (p - (s + 1)) = a := by rw [e, ← hl, List.take_left]
  have eb : T.drop (m + (p - (s + 1))) = b := by rw [← List.drop_drop, e, ← hl, List.drop_left]
  exact ⟨by omega, by rw [eb]; exact h2, by rw [ea]; exact h1⟩
theorem seg_here {T P : List UInt8} {s p t fr : Nat} (h : s + 1 ≤ p) (hft : fr ≤ t) (hl : t - fr = p - (s + 1)) (hM : M ((T.drop fr).take (t - fr)) ((P.drop (s + 1)).take (p - (s + 1)))) (h2 : M (T.drop t) (P.drop p)) :
    M (T.drop fr) (P.drop (s + 1)) := by
  rw [seg_split P (s + 1) p h, seg_split T fr t hft]
  exact (M_append _ _ _).mpr ⟨_, _, rfl, hM, h2⟩

theorem drop_cons {l : List UInt8} {i : Nat} (h : i < l.length) : l.drop i = l[i] :: l.drop (i + 1) := List.drop_eq_getElem_cons h

theorem St.star {T P : List UInt8} {t p : Nat} {st : Int} {fr : Nat} (h : St T P t p st fr) (hp : p < P.length) (hc : P[p] = 37) : St T P t (p + 1) (p : Int) t := by
  obtain ⟨ht, _, hft, h⟩ := h
  refine ⟨ht, by omega, Nat.le_refl _, Or.inr ⟨p, rfl, Nat.le_refl _, by omega, ?_, ?_, ?_⟩⟩
  · simp
  · simp [M]
  · have e : P.drop p = 37 :: P.drop (p + 1) := by rw [drop_cons hp, hc]
    rcases h with ⟨_, _, h⟩ | ⟨s, rfl, hs, hl, hn, hM, h⟩
    · rw [h, e, M_pct]
      constructor
      · rintro ⟨m, hm, h⟩
        rw [List.length_drop] at hm
        rw [List.drop_drop] at h
        exact ⟨t + m, by omega, by omega, h⟩
      · rintro ⟨m, h1, h2, h⟩
        refine ⟨m - t, by rw [List.length_drop]; omega, ?_⟩
        rw [List.drop_drop, show t + (m - t) = m by omega]; exact h
    · rw [h]
      constructor
      · rintro ⟨m, h1, h2, h3⟩
        obtain ⟨h4, h5, _⟩ := seg_any hs (by omega) hn h3 h2
        rw [e, M_pct] at h5
        obtain ⟨m', hm', h6⟩ := h5
        rw [List.length_drop] at hm'
        rw [List.drop_drop] at h6
        exact ⟨_, by omega, by omega, h6⟩
      · rintro ⟨m, h1, h2, h3⟩
        refine ⟨fr, Nat.le_refl _, by omega, seg_here hs hft hl hM ?_⟩
        rw [e, M_pct]
        refine ⟨m - t, by rw [List.length_drop]; omega, ?_⟩
        rw [List.drop_drop, show t + (m - t) = m by omega]; exact h3

theorem St.step {T P : List UInt8} {t p : Nat} {st : Int} {fr : Nat} (h : St T P t p st fr) (ht : t < T.length) (hp : p < P.length) (hc : P[p] ≠ 37) (hx : P[p] = 95 ∨ P[p] = T[t]) : St T P (t + 1) (p + 1) st fr := by
  obtain ⟨_, _, hft, h⟩ := h
  refine ⟨ht, hp, by omega, ?_⟩
  have eP := drop_cons hp
  have eT := drop_cons ht
  rcases h with ⟨h0, h1, h⟩ | ⟨s, h0, hs, hl, hn, hM, h⟩
  · refine Or.inl ⟨h0, h1, ?_⟩
    rw [h, eP, eT, M_one _ _ _ hc]
    constructor
    · rintro ⟨x, b, e, _, h⟩; injection e with _ e2; subst e2; exact h
    · intro h; exact ⟨_, _, rfl, hx, h⟩
  · have Hh := Aside0.mk h
    clear h
    refine Or.inr ⟨s, h0, by omega, by omega, ?_, ?_, Hh.out⟩
    · intro c hm
      rw [show p + 1 - (s + 1) = (p - (s + 1)) + 1 by omega, List.take_succ_eq_append_getElem (by rw [List.length_drop]; omega)] at hm
      rcases List.mem_append.mp hm with hm | hm
      · exact hn c hm
      · simp only [List.getElem_drop, List.mem_singleton] at hm
        rw [hm]
        have : P[s + 1 + (p - (s + 1))]'(by omega) = P[p] := by congr 1; omega
        rw [this]; exact hc
    · have e1 : (T.drop fr).take (t + 1 - fr) = (T.drop fr).take (t - fr) ++ [T[t]] := by
        rw [show t + 1 - fr = (t - fr) + 1 by omega, List.take_succ_eq_append_getElem (by rw [List.length_drop]; omega)]
        congr 2
        rw [List.getElem_drop]; congr 1; omega
      have e2 : (P.drop (s + 1)).take (p + 1 - (s + 1)) = (P.drop (s + 1)).take (p - (s + 1)) ++ [P[p]] := by
        rw [show p + 1 - (s + 1) = (p - (s + 1)) + 1 by omega, List.take_succ_eq_append_getElem (by rw [List.length_drop]; omega)]
        congr 2
        rw [List.getElem_drop]; congr 1; omega
      rw [e1, e2]
      exact (M_append _ _ _).mpr ⟨_, _, rfl, hM, (M_one _ _ _ hc).mpr ⟨_, _, rfl, hx, rfl⟩⟩

theorem St.miss {T P : List UInt8} {t p : Nat} {st : Int} {fr : Nat} (h : St T P t p st fr) (hno : ¬ M (T.drop t) (P.drop p)) : (st = -1 ∧ ¬ M T P) ∨ (∃ s : Nat, st = (s : Int) ∧ s + 1 ≤ p ∧ (t < T.length → St T P (fr + 1) (s + 1) st (fr + 1)) ∧ (t = T.length → ¬ M T P)) := by
  obtain ⟨ht, hp, hft, h⟩ := h
  rcases h with ⟨h0, h1, h⟩ | ⟨s, h0, hs, hl, hn, hM, h⟩
  · exact Or.inl ⟨h0, fun e => hno (h.mp e)⟩
  · have Hh := Aside0.mk h
    clear h
    have hfr : ¬ M (T.drop fr) (P.drop (s + 1)) := fun e => by
      have := (seg_any hs hp hn e (by omega)).2.1
      rw [← hl, show fr + (t - fr) = t by omega] at this
      exact hno this
    refine Or.inr ⟨s, h0, hs, fun htl => ⟨by omega, by omega, Nat.le_refl _, Or.inr ⟨s, h0, Nat.le_refl _, by omega, by simp, by simp [M], ?_⟩⟩, fun htl => ?_⟩
    · rw [Hh.out]
      constructor
      · rintro ⟨m, h1, h2, h3⟩
        refine ⟨m, ?_, h2, h3⟩
        rcases Nat.lt_or_ge fr m with h4 | h4
        · omega
        · have : m = fr := by omega
          subst this; exact absurd h3 hfr
      · rintro ⟨m, h1, h2, h3⟩; exact ⟨m, by omega, h2, h3⟩
    · intro e
      obtain ⟨m, h1, h2, h3⟩ := Hh.out.mp e
      have h4 := (seg_any hs hp hn h3 h2).1
      have : m = fr := by omega
      subst this; exact hfr h3

theorem St.last {T P : List UInt8} {p : Nat} {st : Int} {fr : Nat} (h : St T P T.length p st fr) : M T P ↔ ∀ c ∈ P.drop p, c = 37 := by
  have e : T.drop T.length = [] := by simp
  have hiff := M_nil (P.drop p)
  by_cases hno : M (T.drop T.length) (P.drop p)
  · refine ⟨fun _ => hiff.mp (by rw [e] at hno; exact hno), fun _ => ?_⟩
    obtain ⟨ht, hp, hft, h⟩ := h
    rcases h with ⟨_, _, h⟩ | ⟨s, h0, hs, hl, hn, hM, h⟩
    · exact h.mpr hno
    · exact h.mpr ⟨fr, Nat.le_refl _, by omega, seg_here hs hft hl hM hno⟩
  · have hf : ¬ M T P := by
      rcases h.miss hno with ⟨_, h⟩ | ⟨_, _, _, _, h⟩
      · exact h
      · exact h rfl
    exact ⟨fun x => absurd x hf, fun x => absurd (by rw [e]; exact hiff.mpr x) hno⟩

theorem St.bounds {T P : List UInt8} {t p : Nat} {st : Int} {fr : Nat} (h : St T P t p st fr) : t ≤ T.length ∧ p ≤ P.length ∧ fr ≤ t := ⟨h.1, h.2.1, h.2.2.1⟩
theorem St.start (T P : List UInt8) : St T P 0 0 (-1) 0 := ⟨by omega, by omega, Nat.le_refl _, Or.inl ⟨rfl, rfl, by simp⟩⟩
attribute [irreducible] St

theorem u8_37 (c : UInt8) : (((c.toNat : Nat) : Int) = 37) ↔ c = 37 := ⟨fun h => UInt8.toNat_inj.mp (by show c.toNat = 37; omega), fun h => by subst h; rfl⟩
theorem u8_95 (c : UInt8) : (((c.toNat : Nat) : Int) = 95) ↔ c = 95 := ⟨fun h => UInt8.toNat_inj.mp (by show c.toNat = 95; omega), fun h => by subst h; rfl⟩
theorem u8_eq (c d : UInt8) : (((c.toNat : Nat) : Int) = ((d.toNat : Nat) : Int)) ↔ c = d := ⟨fun h => UInt8.toNat_inj.mp (by omega), fun h => by subst h; rfl⟩

theorem matches_l0 (x0 x1 : ByteArray) (h0 : x0.size ≤ 1125899906842624) (h1 : x1.size ≤ 1125899906842624) : ∀ (F k t p : Nat) (st : Int) (fr : Nat),
    St x0.data.toList x1.data.toList t p st fr → (x0.size - fr) * (x0.size + x1.size + 2) + (x0.size - t) + (x1.size - p) ≤ F → 3 * F + 4 ≤ k →
    ∃ b, value_Matches.l0 k x0 x1 t p st fr = some b ∧ (b = true ↔ M x0.data.toList x1.data.toList) := by
  intro F
  induction F using Nat.strongRecOn with
  | ind F ih =>
    intro k t p st fr hS hF hk
    have hl0 : x0.data.toList.length = x0.size := by simp
    have hl1 : x1.data.toList.length = x1.size := by simp
    obtain ⟨ht, hp, hft⟩ := hS.bounds
    rw [hl0] at ht; rw [hl1] at hp
    obtain ⟨k, rfl⟩ : ∃ m, k = m + 4 := ⟨k - 4, by omega⟩
    simp only [value_Matches.l0]
    by_cases htl : t < x0.size
    · rw [if_pos (by omega)]
      have hT : t < x0.data.toList.length := by rw [hl0]; exact htl
      -- the end of a round: the byte fits, or it does not
      have fit : ∀ (hp' : p < x1.size) (hc : x1.data.toList[p]'(by rw [hl1]; exact hp') ≠ 37) (hx : x1.data.toList[p]'(by rw [hl1]; exact hp') = 95 ∨ x1.data.toList[p]'(by rw [hl1]; exact hp') = x0.data.toList[t]),
          ∃ b, value_Matches.j2 (k + 2) x0 x1 t p st fr true = some b ∧ (b = true ↔ M x0.data.toList x1.data.toList) := by
        intro hp' hc hx
        simp only [value_Matches.j2]
        rw [if_pos trivial, wrap_step htl (by omega), wrap_step hp' (by omega)]
        exact ih (F - 2) (by omega) (k + 1) (t + 1) (p + 1) st fr (hS.step hT (by rw [hl1]; exact hp') hc hx) (by omega) (by omega)
      have miss : ¬ M (x0.data.toList.drop t) (x1.data.toList.drop p) → ∃ b, value_Matches.j2 (k + 2) x0 x1 t p st fr false = some b ∧ (b = true ↔ M x0.data.toList x1.data.toList) := by
        intro hno
        simp only [value_Matches.j2]
        rw [if_neg (by decide)]
        rcases hS.miss hno with ⟨rfl, hf⟩ | ⟨s, rfl, hs, hgo, _⟩
        · rw [if_neg (by omega)]; exact ⟨false, rfl, ⟨(fun h => by cases h), fun h => absurd h hf⟩⟩
        · rw [if_pos (by omega), wrap_step (show fr < x0.size by omega) (by omega), wrap_step (show s < x1.size by omega) (by omega)]
          have hmul : (x0.size - fr) * (x0.size + x1.size + 2) = (x0.size - (fr + 1)) * (x0.size + x1.size + 2) + (x0.size + x1.size + 2) := by
            rw [show x0.size - fr = (x0.size - (fr + 1)) + 1 by omega, Nat.add_mul, Nat.one_mul]
          exact ih (F - 2) (by omega) (k + 1) (fr + 1) (s + 1) s (fr + 1) (hgo hT) (by omega) (by omega)
      have two : (∀ hp' : p < x1.size, x1.data.toList[p]'(by rw [hl1]; exact hp') ≠ 37) → ∃ b, value_Matches.j1 (k + 3) x0 x1 t p st fr false = some b ∧ (b = true ↔ M x0.data.toList x1.data.toList) := by
        intro hno
        simp only [value_Matches.j1]
        rw [if_neg (by decide)]
        by_cases hp' : p < x1.size
        · have hP : p < x1.data.toList.length := by rw [hl1]; exact hp'
          have hc := hno hp'
          rw [if_pos (by omega), if_pos (by omega), bt_list x1 p hP]
          by_cases h95 : x1.data.toList[p] = 95
          · rw [if_pos ((u8_95 _).mpr h95)]
            exact fit hp' hc (Or.inl h95)
          · rw [if_neg (fun e => h95 ((u8_95 _).mp e)), if_pos (by omega), if_pos (by omega), bt_list x0 t hT]
            by_cases hx : x1.data.toList[p] = x0.data.toList[t]
            · rw [beq_iff_eq.mpr ((u8_eq _ _).mpr hx)]
              exact fit hp' hc (Or.inr hx)
            · rw [beq_eq_false_iff_ne.mpr (fun e => hx ((u8_eq _ _).mp e))]
              apply miss
              rw [drop_cons hP, drop_cons hT, M_one _ _ _ hc]
              rintro ⟨x, b, e, h, _⟩
              injection e with e1 _
              subst e1
              rcases h with h | h
              · exact h95 h
              · exact hx h
        · rw [if_neg (by omega)]
          apply miss
          rw [drop_cons hT, show x1.data.toList.drop p = [] from List.drop_of_length_le (by rw [hl1]; omega)]
          simp [M]
      by_cases hp' : p < x1.size
      · have hP : p < x1.data.toList.length := by rw [hl1]; exact hp'
        rw [if_pos (by omega), if_pos (by omega), bt_list x1 p hP]
        by_cases h37 : x1.data.toList[p] = 37
        · rw [beq_iff_eq.mpr ((u8_37 _).mpr h37)]
          simp only [value_Matches.j1]
          rw [if_pos trivial, wrap_step hp' (by omega)]
          have hmul : (x0.size - t) * (x0.size + x1.size + 2) ≤ (x0.size - fr) * (x0.size + x1.size + 2) := Nat.mul_le_mul_right _ (by omega)
          exact ih (F - 1) (by omega) (k + 2) t (p + 1) p t (hS.star hP h37) (by omega) (by omega)
        · rw [beq_eq_false_iff_ne.mpr (fun e => h37 ((u8_37 _).mp e))]
          exact two (fun _ => h37)
      · rw [if_neg (by omega)]
        exact two (fun h => absurd h hp')
    · have ht' : t = x0.size := by omega
      rw [if_neg (by omega), if_pos (by omega), if_pos (by omega)]
      have hlast : M x0.data.toList x1.data.toList ↔ ∀ c ∈ x1.data.toList.drop p, c = 37 := by
        have h2 : St x0.data.toList x1.data.toList x0.data.toList.length p st fr := by rw [hl0, ← ht']; exact hS
        exact h2.last
      have hex : (x1.extract (p : Int).toNat x1.size).data.toList = x1.data.toList.drop p := by
        rw [Lib.extract_data, Int.toNat_natCast]
        apply List.take_of_length_le
        rw [List.length_drop, hl1]; omega
      have hsz : (x1.extract (p : Int).toNat x1.size).size ≤ 9223372036854775807 := by
        have : (x1.extract (p : Int).toNat x1.size).size = (x1.data.toList.drop p).length := by rw [← hex]; simp
        rw [this, List.length_drop, hl1]; omega
      unfold strings_Trim.f
      rw [if_pos ⟨hsz, by decide, by decide⟩, hex]
      simp only [Option.bind_some]
      refine ⟨_, rfl, ?_⟩
      rw [hlast, ← trim_pct, Lib.toList_data]
      simp

theorem matches_is (x0 x1 : ByteArray) (h0 : x0.size ≤ 1125899906842624) (h1 : x1.size ≤ 1125899906842624) (k : Nat)
    (hk : 3 * (x0.size * (x0.size + x1.size + 2) + x0.size + x1.size) + 4 ≤ k) : ∃ b, value_Matches.f k x0 x1 = some b ∧ (b = true ↔ M x0.data.toList x1.data.toList) := by
  unfold value_Matches.f
  exact matches_l0 x0 x1 h0 h1 _ k 0 0 (-1) 0 (St.start _ _) (Nat.le_refl _) (by simpa using hk)
end Go.Proofs.YtafdoogghalpjaaGreatDoor.PAll
