import Derived.Test.YthgfdnffnbclpaaGreatDoorXI19
import Derived.Test.YthgfdnffnbclpaaGreatDoorXI21
set_option linter.unusedVariables false
set_option linter.unusedSimpArgs false
namespace Go.Proofs.YthgfdnffnbclpaaGreatDoor.PAll
open Go.RowKit Go.Proofs.YthgfdnffnbclpaaGreatDoorW.PrintWords Go.Proofs.YthgfdnffnbclpaaGreatDoorW.PrintLast Go.Proofs.YthgfdnffnbclpaaGreatDoorW.PrintMore

theorem ris_back (l : List Int) (n : Int) : ∀ (d i : Nat), i + d = l.length → (∀ j, j < l.length → 0 ≤ rd l (j : Int) ∧ rd l (j : Int) < n ∧ (0 < j → rd l ((j - 1 : Nat) : Int) < rd l (j : Int))) → risG l n d i = true := by
  intro d
  induction d with
  | zero => intro i _ _; rfl
  | succ d ih =>
    intro i hi h
    obtain ⟨h1, h2, h3⟩ := h i (by omega)
    rw [risG, if_neg (by omega), if_neg (by omega), if_neg (fun hh => by have := h3 hh.1; omega)]
    exact ih (i + 1) (by omega) h
theorem ris_pw {l : List Int} {n : Int} (h : risB l n = true) : l.Pairwise (· < ·) := by
  have hf := ris_facts l n l.length 0 (by omega) h
  have key : ∀ (b a : Nat), a < b → b < l.length → rd l (a : Int) < rd l (b : Int) := by
    intro b
    induction b with
    | zero => intro a ha; omega
    | succ b ih =>
      intro a ha hb
      have h1 := (hf (b + 1) (by omega) hb).2.2 (by omega)
      rw [show b + 1 - 1 = b by omega] at h1
      by_cases e : a = b
      · subst e; exact h1
      · have := ih a (by omega) (by omega); omega
  rw [List.pairwise_iff_getElem]
  intro a b ha hb hab
  have := key b a hab hb
  rwa [rd_at ha, rd_at hb] at this
theorem pw_ris {l : List Int} {n : Int} (h : l.Pairwise (· < ·)) (hin : ∀ x ∈ l, 0 ≤ x ∧ x < n) : risB l n = true := by
  refine ris_back l n l.length 0 (by omega) fun j hj => ?_
  rw [rd_at hj]
  obtain ⟨h1, h2⟩ := hin _ (List.getElem_mem hj)
  refine ⟨h1, h2, fun h0 => ?_⟩
  rw [rd_at (by omega : j - 1 < l.length)]
  exact (List.pairwise_iff_getElem.1 h) (j - 1) j (by omega) hj (by omega)
theorem insI_strict (c : Int) (l : List Int) (h : l.Pairwise (· < ·)) (hc : l.any (· == c) = false) : (insI c l).Pairwise (· < ·) := by
  have hne : ∀ x ∈ l, x ≠ c := fun x hx e => by
    rw [List.any_eq_false] at hc
    exact hc x hx (by rw [e]; exact beq_iff_eq.mpr rfl)
  unfold insI
  have e : l.takeWhile (· < c) ++ l.dropWhile (· < c) = l := List.takeWhile_append_dropWhile
  have h2 := h
  rw [← e, List.pairwise_append] at h2
  rw [List.pairwise_append, List.pairwise_cons]
  refine ⟨h2.1, ⟨fun x hx => ?_, h2.2.1⟩, fun a ha b hb => ?_⟩
  · have h3 := drop_ge c l (le_of_lt_pw h) x hx
    have h4 := hne x (by rw [← e]; exact List.mem_append_right _ hx)
    omega
  · have h3 := take_lt c l a ha
    rcases List.mem_cons.1 hb with e2 | hb
    · omega
    · exact h2.2.2 a ha b hb
theorem insI_mem (c : Int) (l : List Int) : ∀ x, x ∈ insI c l ↔ x = c ∨ x ∈ l := fun x => by
  rw [(insI_perm c l).mem_iff, List.mem_append, List.mem_singleton]
  exact ⟨fun h => h.symm, fun h => h.symm⟩
theorem insI_back (c : Int) (l : List Int) (hc : l.any (· == c) = false) : (insI c l).filter (· != c) = l := by
  have hne : ∀ x ∈ l, (x != c) = true := fun x hx => by
    rw [List.any_eq_false] at hc
    have := hc x hx
    simpa using this
  have e : l.takeWhile (· < c) ++ l.dropWhile (· < c) = l := List.takeWhile_append_dropWhile
  unfold insI
  rw [List.filter_append, List.filter_cons_of_neg (p := fun x => x != c) (by simp), ← List.filter_append, e]
  exact List.filter_eq_self.2 hne

/-- The scheme with other indexes in table n. -/
def withIx (s : List S49) (n : Nat) (l : List Int) : List S49 := s.set n (setIx (rd_T49 s n) l)
theorem with_at (s : List S49) (n : Nat) (l : List Int) (j : Nat) (hj : j < s.length) : rd_T49 (withIx s n l) (j : Int) = if j = n then setIx (rd_T49 s n) l else rd_T49 s (j : Int) := by
  unfold withIx rd_T49
  rw [Int.toNat_natCast, Int.toNat_natCast, List.getD_eq_getElem?_getD, List.getElem?_set]
  by_cases e : n = j
  · subst e; simp [hj]
  · rw [if_neg e, if_neg (fun h => e h.symm), List.getD_eq_getElem?_getD]
theorem refB_same {b b' : List S49} (hl : b.length = b'.length) (h : ∀ j : Nat, j < b.length → (rd_T49 b (j : Int)).f1 = (rd_T49 b' (j : Int)).f1 ∧ (rd_T49 b (j : Int)).f2 = (rd_T49 b' (j : Int)).f2) (tc : List S78) (r : S75) : refB b tc r = refB b' tc r := by
  unfold refB
  by_cases q : r.f1 < 0
  · rw [if_pos q, if_pos q]
  rw [if_neg q, if_neg q, hl]
  by_cases q2 : r.f1 ≥ (b'.length : Int)
  · rw [if_pos q2, if_pos q2]
  rw [if_neg q2, if_neg q2]
  have hh := h r.f1.toNat (by omega)
  rw [Int.toNat_of_nonneg (by omega)] at hh
  rw [hh.1, hh.2]
theorem with_valid {s : List S49} {n : Nat} {l : List Int} (hv : validB s = true) (hn : n < s.length) (hl : risB l ((rd_T49 s n).f1.length : Int) = true) : validB (withIx s n l) = true := by
  have hlen : (withIx s n l).length = s.length := by simp [withIx]
  have hf1 : ∀ j : Nat, j < s.length → (rd_T49 (withIx s n l) (j : Int)).f1 = (rd_T49 s (j : Int)).f1 ∧ (rd_T49 (withIx s n l) (j : Int)).f2 = (rd_T49 s (j : Int)).f2 := fun j hj => by
    rw [with_at _ _ _ _ hj]
    split
    · rename_i e; subst e; exact ⟨rfl, rfl⟩
    · exact ⟨rfl, rfl⟩
  have hnames : (withIx s n l).map (·.f0) = s.map (·.f0) := by
    unfold withIx
    rw [List.map_set]
    apply List.ext_getElem
    · simp
    · intro j h1 h2
      rw [List.getElem_set]
      split
      · rename_i e
        subst e
        simp only [List.length_map] at h2
        rw [rdT49 h2]; simp [setIx]
      · rfl
  have htake : ∀ (j : Nat) (tc : List S78) (r : S75), j ≤ s.length → refB ((withIx s n l).take j) tc r = refB (s.take j) tc r := fun j tc r hj => refB_same (by rw [List.length_take, List.length_take, hlen]) (fun i hi => by
    rw [List.length_take] at hi
    have e : ∀ x : List S49, i < j → rd_T49 (x.take j) (i : Int) = rd_T49 x (i : Int) := fun x hx => by
      unfold rd_T49
      rw [Int.toNat_natCast, List.getD_eq_getElem?_getD, List.getElem?_take, if_pos hx, List.getD_eq_getElem?_getD]
    rw [e _ (by omega), e _ (by omega)]
    exact hf1 i (by omega)) tc r
  have htab : ∀ j : Nat, j < s.length → tabB ((withIx s n l).take j) (rd_T49 (withIx s n l) (j : Int)) = true := fun j hj => by
    have h0 := (validB_at hv).2 j hj
    rw [with_at _ _ _ _ hj]
    have hfun : ∀ tc, (fun r => refB ((withIx s n l).take j) tc r) = fun r => refB (s.take j) tc r := fun tc => funext fun r => htake j tc r (by omega)
    by_cases e : j = n
    · subst e
      rw [if_pos rfl]
      have hk : tabB ((withIx s j l).take j) (setIx (rd_T49 s (j : Int)) l) = true := by
        unfold tabB at h0 ⊢
        generalize rd_T49 s (j : Int) = q at h0 hl ⊢
        obtain ⟨q0, q1, q2, q3, q4⟩ := q
        change (if nmB q0 = true then if (q1.length : Int) > 8 then false else if (q2.length : Int) > 4 then false else if (q3.length : Int) > 4 then false else risB q4 (q1.length : Int) && (distP [] (q1.map (·.f0)) && (q1.all colB && (keysB (q1.length : Int) q2 && q3.all (refB (s.take j) q1)))) else false) = true at h0
        change (if nmB q0 = true then if (q1.length : Int) > 8 then false else if (q2.length : Int) > 4 then false else if (q3.length : Int) > 4 then false else risB l (q1.length : Int) && (distP [] (q1.map (·.f0)) && (q1.all colB && (keysB (q1.length : Int) q2 && q3.all (refB ((withIx s j l).take j) q1)))) else false) = true
        split at h0
        · rename_i p0
          rw [if_pos p0]
          split at h0
          · cases h0
          rename_i p1
          rw [if_neg p1]
          split at h0
          · cases h0
          rename_i p2
          rw [if_neg p2]
          split at h0
          · cases h0
          rename_i p3
          rw [if_neg p3]
          simp only [Bool.and_eq_true] at h0 ⊢
          refine ⟨hl, h0.2.1, h0.2.2.1, h0.2.2.2.1, ?_⟩
          have h5 := h0.2.2.2.2
          rw [List.all_eq_true] at h5 ⊢
          exact fun r hr => by rw [htake _ _ _ (by omega)]; exact h5 r hr
        · cases h0
      exact hk
    · rw [if_neg e]
      unfold tabB at h0 ⊢
      split at h0
      · rename_i q0
        rw [if_pos q0]
        split at h0
        · cases h0
        rename_i q1
        rw [if_neg q1]
        split at h0
        · cases h0
        rename_i q2
        rw [if_neg q2]
        split at h0
        · cases h0
        rename_i q3
        rw [if_neg q3]
        simp only [Bool.and_eq_true] at h0 ⊢
        refine ⟨h0.1, h0.2.1, h0.2.2.1, h0.2.2.2.1, ?_⟩
        have h5 := h0.2.2.2.2
        rw [List.all_eq_true] at h5 ⊢
        exact fun r hr => by rw [htake _ _ _ (by omega)]; exact h5 r hr
      · cases h0
  have hback : ∀ (d i : Nat), i + d = s.length → tabsB (withIx s n l) d i = true := by
    intro d
    induction d with
    | zero => intro i _; rfl
    | succ d ih => intro i hi; rw [tabsB, htab i (by omega), ih (i + 1) (by omega)]; rfl
  unfold validB at hv ⊢
  simp only [Bool.and_eq_true] at hv ⊢
  rw [hlen, hnames]
  exact ⟨hv.1, hv.2.1, hback s.length 0 (by omega)⟩
end Go.Proofs.YthgfdnffnbclpaaGreatDoor.PAll
namespace Go.Proofs.YthgfdnffnbclpaaGreatDoor.PAll
open Go.RowKit Go.Proofs.YthgfdnffnbclpaaGreatDoorW.PrintWords Go.Proofs.YthgfdnffnbclpaaGreatDoorW.PrintLast Go.Proofs.YthgfdnffnbclpaaGreatDoorW.PrintMore

theorem withIx_map (s : List S49) (n : Nat) (l : List Int) : (withIx s n l).map (·.f0) = s.map (·.f0) := by
  unfold withIx
  rw [List.map_set]
  apply List.ext_getElem
  · simp
  · intro j h1 h2
    rw [List.getElem_set]
    split
    · rename_i e
      subst e
      simp only [List.length_map] at h2
      rw [rdT49 h2]; simp [setIx]
    · rfl
theorem findP_names (nm : ByteArray) : ∀ (s t : List S49) (i : Nat), s.map (·.f0) = t.map (·.f0) → findP nm i s = findP nm i t
  | [], [], _, _ => rfl
  | [], _ :: _, _, h => by simp at h
  | _ :: _, [], _, h => by simp at h
  | a :: s, b :: t, i, h => by
    simp only [List.map_cons, List.cons.injEq] at h
    unfold findP
    rw [h.1, findP_names nm s t (i + 1) h.2]
theorem place_with (s : List S49) (n : Nat) (l : List Int) (nm cn : ByteArray) : placeG true (withIx s n l) nm cn = placeG true s nm cn := by
  have hf : findP nm 0 (withIx s n l) = findP nm 0 s := findP_names nm _ _ 0 (withIx_map s n l)
  unfold placeG
  rw [if_pos rfl, if_pos rfl, hf]
  by_cases q : findP nm 0 s < 0
  · rw [if_pos q, if_pos q]
  rw [if_neg q, if_neg q]
  have hr := findP_range nm s 0
  have hlt : (findP nm 0 s).toNat < s.length := by omega
  have e := with_at s n l (findP nm 0 s).toNat hlt
  rw [Int.toNat_of_nonneg (by omega)] at e
  have e1 : (rd_T49 (withIx s n l) (findP nm 0 s)).f1 = (rd_T49 s (findP nm 0 s)).f1 := by
    rw [e]
    split
    · rename_i e2
      have : rd_T49 s (findP nm 0 s) = rd_T49 s ((findP nm 0 s).toNat : Int) := by rw [Int.toNat_of_nonneg (by omega)]
      rw [this, e2]
      rfl
    · rfl
  rw [e1]
theorem add_back {s : List S49} {v : Bool} {nm cn : ByteArray} (hvv : v = true → validB s = true) (h : (addG v s nm cn).2 = 0) :
    v = true ∧ validB (addG v s nm cn).1 = true ∧ (∃ (n : Nat) (l : List Int), (addG v s nm cn).1 = withIx s n l ∧ n < s.length ∧ l.length ≤ (rd_T49 s (n : Int)).f4.length + 1) ∧ rmvG true (addG v s nm cn).1 nm cn = (s, 0) := by
  have hpl : placeG v s nm cn = ((placeG v s nm cn).1, (placeG v s nm cn).2.1, (placeG v s nm cn).2.2) := rfl
  have hvt : v = true := by
    cases v with
    | true => rfl
    | false => exact absurd h (by simp [addG, placeG])
  subst hvt
  have hv := hvv rfl
  have hback := fun n l => place_with s n l nm cn
  have hrng := fun n c h => placeG_range (v := true) (s := s) (nm := nm) (cn := cn) (n := n) (c := c) h
  unfold addG at h ⊢
  unfold rmvG
  generalize placeG true s nm cn = p at *
  obtain ⟨pn, pc, pe⟩ := p
  simp only at h hrng ⊢
  by_cases q : pe = 0
  case neg => rw [if_neg q] at h; exact absurd h q
  subst q
  obtain ⟨-, h1, h2, h3, h4⟩ := hrng _ _ rfl
  obtain ⟨n, rfl⟩ := Int.eq_ofNat_of_zero_le h1
  have hn : n < s.length := by omega
  rw [if_pos rfl] at h ⊢
  by_cases q2 : (rd_T49 s (n : Int)).f4.any (· == pc) = true
  case pos => rw [if_pos q2] at h; exact absurd h (by decide)
  rw [if_neg q2]
  rw [Bool.not_eq_true] at q2
  simp only [Int.toNat_natCast]
  have hris := (tabB_more ((validB_at hv).2 n hn)).2.2
  have hs' := insI_strict pc _ (ris_pw hris) q2
  have hf := ris_facts (rd_T49 s (n : Int)).f4 _ (rd_T49 s (n : Int)).f4.length 0 (by omega) hris
  have hl : risB (insI pc (rd_T49 s (n : Int)).f4) ((rd_T49 s (n : Int)).f1.length : Int) = true := pw_ris hs' fun x hx => by
    rcases (insI_mem pc _ x).1 hx with rfl | hx
    · exact ⟨h3, h4⟩
    · obtain ⟨j, hj, rfl⟩ := List.getElem_of_mem hx
      have := hf j (by omega) hj
      rw [rd_at hj] at this
      exact ⟨this.1, this.2.1⟩
  have hw : s.set n (setIx (rd_T49 s (n : Int)) (insI pc (rd_T49 s (n : Int)).f4)) = withIx s n (insI pc (rd_T49 s (n : Int)).f4) := rfl
  rw [hw]
  refine ⟨trivial, with_valid hv hn hl, ⟨n, _, rfl, hn, ?_⟩, ?_⟩
  · have := (insI_perm pc (rd_T49 s (n : Int)).f4).length_eq
    rw [this]; simp
  · rw [hback]
    simp only [Int.toNat_natCast]
    rw [if_pos trivial, with_at s n _ n hn, if_pos rfl]
    have hany : (setIx (rd_T49 s (n : Int)) (insI pc (rd_T49 s (n : Int)).f4)).f4.any (· == pc) = true := by
      show (insI pc (rd_T49 s (n : Int)).f4).any (· == pc) = true
      rw [List.any_eq_true]
      exact ⟨pc, (insI_mem pc _ pc).2 (Or.inl rfl), by simp⟩
    rw [if_pos hany]
    have e1 : (setIx (rd_T49 s (n : Int)) (insI pc (rd_T49 s (n : Int)).f4)).f4.filter (· != pc) = (rd_T49 s (n : Int)).f4 := insI_back pc _ q2
    rw [e1]
    have e2 : setIx (setIx (rd_T49 s (n : Int)) (insI pc (rd_T49 s (n : Int)).f4)) (rd_T49 s (n : Int)).f4 = rd_T49 s (n : Int) := rfl
    rw [e2]
    unfold withIx
    rw [List.set_set, rdT49 hn, List.set_getElem_self]
end Go.Proofs.YthgfdnffnbclpaaGreatDoor.PAll
