import Derived.Test.YthgfdnffnbclpaaGreatDoorSQG18
import Derived.Test.YthgfdnffnbclpaaGreatDoorSQG19
import Derived.Test.YthgfdnffnbclpaaGreatDoorSQG23
set_option linter.unusedVariables false
set_option linter.unusedSimpArgs false
namespace Go.Proofs.YthgfdnffnbclpaaGreatDoor.PAll
open Go.RowKit Go.Proofs.YthgfdnffnbclpaaGreatDoorW.PrintWords Go.Proofs.YthgfdnffnbclpaaGreatDoorW.PrintLast Go.Proofs.YthgfdnffnbclpaaGreatDoorW.PrintMore
theorem ris_back (l : List Int) (n : Int) : ∀ (d i : Nat), i + d = l.length → (∀ j, j < l.length → 0 ≤ rd l (j : Int) ∧ rd l (j : Int) < n ∧ (0 < j → rd l ((j - 1 : Nat) : Int) < rd l (j : Int))) → risG l n d i = true := by
 intro d
 induction d with
 | zero => intro i _ _; rfl
 | succ d ih =>
  intro i hi h
  obtain ⟨h1, h2, h3⟩ := h i (by omega)
  rw [risG, if_neg (by omega), if_neg (by omega), if_neg (fun hh => by have := h3 hh.1; omega)]
  exact ih (i + 1) (by omega) h
theorem ris_pw {l : List Int} {n : Int} (h : risB l n = true) : l.Pairwise (· < ·) := by
 have hf := ris_facts l n l.length 0 (by omega) h
 have key : ∀ (b a : Nat), a < b → b < l.length → rd l (a : Int) < rd l (b : Int) := by
  intro b
  induction b with
  | zero => intro a ha; omega
  | succ b ih =>
   intro a ha hb
   have h1 := (hf (b + 1) (by omega) hb).2.2 (by omega)
   rw [show b + 1 - 1 = b by omega] at h1
   by_cases e : a = b
   ·subst e; exact h1
   ·have := ih a (by omega) (by omega); omega
 rw [List.pairwise_iff_getElem]
 intro a b ha hb hab
 have := key b a hab hb
 rwa [rd_at ha, rd_at hb] at this
theorem pw_ris {l : List Int} {n : Int} (h : l.Pairwise (· < ·)) (hin : ∀ x ∈ l, 0 ≤ x ∧ x < n) : risB l n = true := by
 refine ris_back l n l.length 0 (by omega) fun j hj => ?_
 rw [rd_at hj]
 obtain ⟨h1, h2⟩ := hin _ (List.getElem_mem hj)
 refine ⟨h1, h2, fun h0 => ?_⟩
 rw [rd_at (by omega : j - 1 < l.length)]
 exact (List.pairwise_iff_getElem.1 h) (j - 1) j (by omega) hj (by omega)
theorem insI_strict (c : Int) (l : List Int) (h : l.Pairwise (· < ·)) (hc : l.any (· == c) = false) : (insI c l).Pairwise (· < ·) := by
 have hne : ∀ x ∈ l, x ≠ c := fun x hx e => by
  rw [List.any_eq_false] at hc
  exact hc x hx (by rw [e]; exact beq_iff_eq.mpr rfl)
 unfold insI
 have e : l.takeWhile (· < c) ++ l.dropWhile (· < c) = l := List.takeWhile_append_dropWhile
 have h2 := h
 rw [← e, List.pairwise_append] at h2
 rw [List.pairwise_append, List.pairwise_cons]
 refine ⟨h2.1, ⟨fun x hx => ?_, h2.2.1⟩, fun a ha b hb => ?_⟩
 ·have h3 := drop_ge c l (le_of_lt_pw h) x hx
  have h4 := hne x (by rw [← e]; exact List.mem_append_right _ hx)
  omega
 ·have h3 := take_lt c l a ha
  rcases List.mem_cons.1 hb with e2 | hb
  ·omega
  ·exact h2.2.2 a ha b hb
theorem insI_mem (c : Int) (l : List Int) : ∀ x, x ∈ insI c l ↔ x = c ∨ x ∈ l := fun x => by
 rw [(insI_perm c l).mem_iff, List.mem_append, List.mem_singleton]
 exact ⟨fun h => h.symm, fun h => h.symm⟩
theorem insI_back (c : Int) (l : List Int) (hc : l.any (· == c) = false) : (insI c l).filter (· != c) = l := by
 have hne : ∀ x ∈ l, (x != c) = true := fun x hx => by
  rw [List.any_eq_false] at hc
  have := hc x hx
  simpa using this
 have e : l.takeWhile (· < c) ++ l.dropWhile (· < c) = l := List.takeWhile_append_dropWhile
 unfold insI
 rw [List.filter_append, List.filter_cons_of_neg (p := fun x => x != c) (by simp), ← List.filter_append, e]
 exact List.filter_eq_self.2 hne
def withIx (s : List S49) (n : Nat) (l : List Int) : List S49 := s.set n (setIx (rd_T49 s n) l)
theorem with_at (s : List S49) (n : Nat) (l : List Int) (j : Nat) (hj : j < s.length) : rd_T49 (withIx s n l) (j : Int) = if j = n then setIx (rd_T49 s n) l else rd_T49 s (j : Int) := by
 unfold withIx rd_T49
 rw [Int.toNat_natCast, Int.toNat_natCast, List.getD_eq_getElem?_getD, List.getElem?_set]
 by_cases e : n = j
 ·subst e; simp [hj]
 ·rw [if_neg e, if_neg (fun h => e h.symm), List.getD_eq_getElem?_getD]
theorem refB_same {b b' : List S49} (hl : b.length = b'.length) (h : ∀ j : Nat, j < b.length → (rd_T49 b (j : Int)).f1 = (rd_T49 b' (j : Int)).f1 ∧ (rd_T49 b (j : Int)).f2 = (rd_T49 b' (j : Int)).f2) (tc : List S78) (r : S75) : refB b tc r = refB b' tc r := by
 unfold refB
 by_cases q : r.f1 < 0
 ·rw [if_pos q, if_pos q]
 rw [if_neg q, if_neg q, hl]
 by_cases q2 : r.f1 ≥ (b'.length : Int)
 ·rw [if_pos q2, if_pos q2]
 rw [if_neg q2, if_neg q2]
 have hh := h r.f1.toNat (by omega)
 rw [Int.toNat_of_nonneg (by omega)] at hh
 rw [hh.1, hh.2]
theorem with_valid {s : List S49} {n : Nat} {l : List Int} (hv : validB s = true) (hn : n < s.length) (hl : risB l ((rd_T49 s n).f1.length : Int) = true) : validB (withIx s n l) = true := by
 have hlen : (withIx s n l).length = s.length := by simp [withIx]
 have hf1 : ∀ j : Nat, j < s.length → (rd_T49 (withIx s n l) (j : Int)).f1 = (rd_T49 s (j : Int)).f1 ∧ (rd_T49 (withIx s n l) (j : Int)).f2 = (rd_T49 s (j : Int)).f2 := fun j hj => by
  rw [with_at _ _ _ _ hj]
  split
  ·rename_i e; subst e; exact ⟨rfl, rfl⟩
  ·exact ⟨rfl, rfl⟩
 have hnames : (withIx s n l).map (·.f0) = s.map (·.f0) := by
  unfold withIx
  rw [List.map_set]
  apply List.ext_getElem
  ·simp
  ·intro j h1 h2
   rw [List.getElem_set]
   split
   ·rename_i e
    subst e
    simp only [List.length_map] at h2
    rw [rdT49 h2]; simp [setIx]
   ·rfl
 have htake : ∀ (j : Nat) (tc : List S78) (r : S75), j ≤ s.length → refB ((withIx s n l).take j) tc r = refB (s.take j) tc r := fun j tc r hj => refB_same (by rw [List.length_take, List.length_take, hlen]) (fun i hi => by
  rw [List.length_take] at hi
  have e : ∀ x : List S49, i < j → rd_T49 (x.take j) (i : Int) = rd_T49 x (i : Int) := fun x hx => by
   unfold rd_T49
   rw [Int.toNat_natCast, List.getD_eq_getElem?_getD, List.getElem?_take, if_pos hx, List.getD_eq_getElem?_getD]
  rw [e _ (by omega), e _ (by omega)]
  exact hf1 i (by omega)) tc r
 have htab : ∀ j : Nat, j < s.length → tabB ((withIx s n l).take j) (rd_T49 (withIx s n l) (j : Int)) = true := fun j hj => by
  have h0 := (validB_at hv).2 j hj
  rw [with_at _ _ _ _ hj]
  have hfun : ∀ tc, (fun r => refB ((withIx s n l).take j) tc r) = fun r => refB (s.take j) tc r := fun tc => funext fun r => htake j tc r (by omega)
  by_cases e : j = n
  ·subst e
   rw [if_pos rfl]
   have hk : tabB ((withIx s j l).take j) (setIx (rd_T49 s (j : Int)) l) = true := by
    unfold tabB at h0 ⊢
    generalize rd_T49 s (j : Int) = q at h0 hl ⊢
    obtain ⟨q0, q1, q2, q3, q4⟩ := q
    change (if nmB q0 = true then if (q1.length : Int) > 8 then false else if (q2.length : Int) > 4 then false else if (q3.length : Int) > 4 then false else risB q4 (q1.length : Int) && (distP [] (q1.map (·.f0)) && (q1.all colB && (keysB (q1.length : Int) q2 && q3.all (refB (s.take j) q1)))) else false) = true at h0
    change (if nmB q0 = true then if (q1.length : Int) > 8 then false else if (q2.length : Int) > 4 then false else if (q3.length : Int) > 4 then false else risB l (q1.length : Int) && (distP [] (q1.map (·.f0)) && (q1.all colB && (keysB (q1.length : Int) q2 && q3.all (refB ((withIx s j l).take j) q1)))) else false) = true
    split at h0
    ·rename_i p0
     rw [if_pos p0]
     split at h0
     ·cases h0
     rename_i p1
     rw [if_neg p1]
     split at h0
     ·cases h0
     rename_i p2
     rw [if_neg p2]
     split at h0
     ·cases h0
     rename_i p3
     rw [if_neg p3]
     simp only [Bool.and_eq_true] at h0 ⊢
     refine ⟨hl, h0.2.1, h0.2.2.1, h0.2.2.2.1, ?_⟩
     have h5 := h0.2.2.2.2
     rw [List.all_eq_true] at h5 ⊢
     exact fun r hr => by rw [htake _ _ _ (by omega)]; exact h5 r hr
    ·cases h0
   exact hk
  ·rw [if_neg e]
   unfold tabB at h0 ⊢
   split at h0
   ·rename_i q0
    rw [if_pos q0]
    split at h0
    ·cases h0
    rename_i q1
    rw [if_neg q1]
    split at h0
    ·cases h0
    rename_i q2
    rw [if_neg q2]
    split at h0
    ·cases h0
    rename_i q3
    rw [if_neg q3]
    simp only [Bool.and_eq_true] at h0 ⊢
    refine ⟨h0.1, h0.2.1, h0.2.2.1, h0.2.2.2.1, ?_⟩
    have h5 := h0.2.2.2.2
    rw [List.all_eq_true] at h5 ⊢
    exact fun r hr => by rw [htake _ _ _ (by omega)]; exact h5 r hr
   ·cases h0
 have hback : ∀ (d i : Nat), i + d = s.length → tabsB (withIx s n l) d i = true := by
  intro d
  induction d with
  | zero => intro i _; rfl
  | succ d ih => intro i hi; rw [tabsB, htab i (by omega), ih (i + 1) (by omega)]; rfl
 unfold validB at hv ⊢
 simp only [Bool.and_eq_true] at hv ⊢
 rw [hlen, hnames]
 exact ⟨hv.1, hv.2.1, hback s.length 0 (by omega)⟩
theorem withIx_map (s : List S49) (n : Nat) (l : List Int) : (withIx s n l).map (·.f0) = s.map (·.f0) := by
 unfold withIx
 rw [List.map_set]
 apply List.ext_getElem
 ·simp
 ·intro j h1 h2
  rw [List.getElem_set]
  split
  ·rename_i e
   subst e
   simp only [List.length_map] at h2
   rw [rdT49 h2]; simp [setIx]
  ·rfl
theorem findP_names (nm : ByteArray) : ∀ (s t : List S49) (i : Nat), s.map (·.f0) = t.map (·.f0) → findP nm i s = findP nm i t
 | [], [], _, _ => rfl
 | [], _ :: _, _, h => by simp at h
 | _ :: _, [], _, h => by simp at h
 | a :: s, b :: t, i, h => by
  simp only [List.map_cons, List.cons.injEq] at h
  unfold findP
  rw [h.1, findP_names nm s t (i + 1) h.2]
theorem place_with (s : List S49) (n : Nat) (l : List Int) (nm cn : ByteArray) : placeG true (withIx s n l) nm cn = placeG true s nm cn := by
 have hf : findP nm 0 (withIx s n l) = findP nm 0 s := findP_names nm _ _ 0 (withIx_map s n l)
 unfold placeG
 rw [if_pos rfl, if_pos rfl, hf]
 by_cases q : findP nm 0 s < 0
 ·rw [if_pos q, if_pos q]
 rw [if_neg q, if_neg q]
 have hr := findP_range nm s 0
 have hlt : (findP nm 0 s).toNat < s.length := by omega
 have e := with_at s n l (findP nm 0 s).toNat hlt
 rw [Int.toNat_of_nonneg (by omega)] at e
 have e1 : (rd_T49 (withIx s n l) (findP nm 0 s)).f1 = (rd_T49 s (findP nm 0 s)).f1 := by
  rw [e]
  split
  ·rename_i e2
   have : rd_T49 s (findP nm 0 s) = rd_T49 s ((findP nm 0 s).toNat : Int) := by rw [Int.toNat_of_nonneg (by omega)]
   rw [this, e2]
   rfl
  ·rfl
 rw [e1]
theorem add_back {s : List S49} {v : Bool} {nm cn : ByteArray} (hvv : v = true → validB s = true) (h : (addG v s nm cn).2 = 0) :
  v = true ∧ validB (addG v s nm cn).1 = true ∧ (∃ (n : Nat) (l : List Int), (addG v s nm cn).1 = withIx s n l ∧ n < s.length ∧ l.length ≤ (rd_T49 s (n : Int)).f4.length + 1) ∧ rmvG true (addG v s nm cn).1 nm cn = (s, 0) := by
 have hpl : placeG v s nm cn = ((placeG v s nm cn).1, (placeG v s nm cn).2.1, (placeG v s nm cn).2.2) := rfl
 have hvt : v = true := by
  cases v with
  | true => rfl
  | false => exact absurd h (by simp [addG, placeG])
 subst hvt
 have hv := hvv rfl
 have hback := fun n l => place_with s n l nm cn
 have hrng := fun n c h => placeG_range (v := true) (s := s) (nm := nm) (cn := cn) (n := n) (c := c) h
 unfold addG at h ⊢
 unfold rmvG
 generalize placeG true s nm cn = p at *
 obtain ⟨pn, pc, pe⟩ := p
 simp only at h hrng ⊢
 by_cases q : pe = 0
 case neg => rw [if_neg q] at h; exact absurd h q
 subst q
 obtain ⟨-, h1, h2, h3, h4⟩ := hrng _ _ rfl
 obtain ⟨n, rfl⟩ := Int.eq_ofNat_of_zero_le h1
 have hn : n < s.length := by omega
 rw [if_pos rfl] at h ⊢
 by_cases q2 : (rd_T49 s (n : Int)).f4.any (· == pc) = true
 case pos => rw [if_pos q2] at h; exact absurd h (by decide)
 rw [if_neg q2]
 rw [Bool.not_eq_true] at q2
 simp only [Int.toNat_natCast]
 have hris := (tabB_more ((validB_at hv).2 n hn)).2.2
 have hs' := insI_strict pc _ (ris_pw hris) q2
 have hf := ris_facts (rd_T49 s (n : Int)).f4 _ (rd_T49 s (n : Int)).f4.length 0 (by omega) hris
 have hl : risB (insI pc (rd_T49 s (n : Int)).f4) ((rd_T49 s (n : Int)).f1.length : Int) = true := pw_ris hs' fun x hx => by
  rcases (insI_mem pc _ x).1 hx with rfl | hx
  ·exact ⟨h3, h4⟩
  ·obtain ⟨j, hj, rfl⟩ := List.getElem_of_mem hx
   have := hf j (by omega) hj
   rw [rd_at hj] at this
   exact ⟨this.1, this.2.1⟩
 have hw : s.set n (setIx (rd_T49 s (n : Int)) (insI pc (rd_T49 s (n : Int)).f4)) = withIx s n (insI pc (rd_T49 s (n : Int)).f4) := rfl
 rw [hw]
 refine ⟨trivial, with_valid hv hn hl, ⟨n, _, rfl, hn, ?_⟩, ?_⟩
 ·have := (insI_perm pc (rd_T49 s (n : Int)).f4).length_eq
  rw [this]; simp
 ·rw [hback]
  simp only [Int.toNat_natCast]
  rw [if_pos trivial, with_at s n _ n hn, if_pos rfl]
  have hany : (setIx (rd_T49 s (n : Int)) (insI pc (rd_T49 s (n : Int)).f4)).f4.any (· == pc) = true := by
   show (insI pc (rd_T49 s (n : Int)).f4).any (· == pc) = true
   rw [List.any_eq_true]
   exact ⟨pc, (insI_mem pc _ pc).2 (Or.inl rfl), by simp⟩
  rw [if_pos hany]
  have e1 : (setIx (rd_T49 s (n : Int)) (insI pc (rd_T49 s (n : Int)).f4)).f4.filter (· != pc) = (rd_T49 s (n : Int)).f4 := insI_back pc _ q2
  rw [e1]
  have e2 : setIx (setIx (rd_T49 s (n : Int)) (insI pc (rd_T49 s (n : Int)).f4)) (rd_T49 s (n : Int)).f4 = rd_T49 s (n : Int) := rfl
  rw [e2]
  unfold withIx
  rw [List.set_set, rdT49 hn, List.set_getElem_self]
theorem tabs_iff (s : List S49) : ∀ (g i : Nat), tabsB s g i = true ↔ ∀ j, i ≤ j → j < i + g → tabB (s.take j) (rd_T49 s (j : Int)) = true
 | 0, i => by simp only [tabsB, true_iff]; intro j h1 h2; omega
 | g + 1, i => by
  rw [tabsB, Bool.and_eq_true, tabs_iff s g (i + 1)]
  constructor
  ·rintro ⟨h1, h2⟩ j a b
   by_cases e : j = i
   ·rw [e]; exact h1
   ·exact h2 j (by omega) (by omega)
  ·intro h
   exact ⟨h i (Nat.le_refl _) (by omega), fun j a b => h j (by omega) (by omega)⟩
theorem valid_iff (s : List S49) : validB s = true ↔ s.length ≤ 16 ∧ (s.map (·.f0)).Nodup ∧ ∀ j, j < s.length → tabB (s.take j) (rd_T49 s (j : Int)) = true := by
 unfold validB
 rw [Bool.and_eq_true, Bool.and_eq_true, decide_eq_true_eq, dist_nodup, tabs_iff]
 constructor
 ·rintro ⟨a, b, c⟩; exact ⟨a, b, fun j h => c j (Nat.zero_le _) (by omega)⟩
 ·rintro ⟨a, b, c⟩; exact ⟨a, b, fun j _ h => c j (by omega)⟩
theorem tabB_iff (b : List S49) (t : S49) : tabB b t = true ↔ nmB t.f0 = true ∧ t.f1.length ≤ 8 ∧ t.f2.length ≤ 4 ∧ t.f3.length ≤ 4 ∧ risB t.f4 (t.f1.length : Int) = true ∧ distP [] (t.f1.map (·.f0)) = true ∧ t.f1.all colB = true ∧ (∀ k ∈ t.f2, keyB (t.f1.length : Int) k = true) ∧ ∀ r ∈ t.f3, refB b t.f1 r = true := by
 unfold tabB
 constructor
 ·intro h
  split at h
  case isFalse => cases h
  split at h
  ·cases h
  split at h
  ·cases h
  split at h
  ·cases h
  simp only [Bool.and_eq_true, keysB_all] at h
  obtain ⟨h1, h2, h3, h4, h5⟩ := h
  exact ⟨by assumption, by omega, by omega, by omega, h1, h2, h3, List.all_eq_true.1 h4, List.all_eq_true.1 h5⟩
 ·rintro ⟨h0, h1, h2, h3, h4, h5, h6, h7, h8⟩
  rw [if_pos h0, if_neg (by omega), if_neg (by omega), if_neg (by omega), h4, h5, h6, keysB_all, List.all_eq_true.2 h7, List.all_eq_true.2 h8]
  rfl
theorem rd49_app {s t : List S49} {j : Nat} (h : j < s.length) : rd_T49 (s ++ t) (j : Int) = rd_T49 s (j : Int) := by
 rw [rdT49 h, rdT49 (show j < (s ++ t).length by rw [List.length_append]; omega), List.getElem_append_left h]
theorem rd13_app {d e : Data} {j : Nat} (h : j < d.length) : rd_L13 (d ++ e) (j : Int) = rd_L13 d (j : Int) := by
 rw [rdL13 h, rdL13 (show j < (d ++ e).length by rw [List.length_append]; omega), List.getElem_append_left h]
theorem rd49_end (s : List S49) (T : S49) : rd_T49 (s ++ [T]) (s.length : Int) = T := by
 rw [rdT49 (by simp)]; simp
theorem rd13_end (d : Data) (x : Rows) : rd_L13 (d ++ [x]) (d.length : Int) = x := by
 rw [rdL13 (by simp)]; simp
theorem valid_snoc {s : List S49} {T : S49} (hv : validB s = true) (h16 : s.length < 16) (hn : T.f0 ∉ s.map (·.f0)) (hT : tabB s T = true) : validB (s ++ [T]) = true := by
 obtain ⟨h1, h2, h3⟩ := (valid_iff s).1 hv
 refine (valid_iff _).2 ⟨by simp; omega, ?_, fun j hj => ?_⟩
 ·rw [List.map_append, List.nodup_append]
  refine ⟨h2, by simp, fun a ha b hb e => ?_⟩
  rw [List.map_cons, List.map_nil, List.mem_singleton] at hb
  exact hn (by rw [← hb, ← e]; exact ha)
 ·rw [List.length_append, List.length_singleton] at hj
  rw [List.take_append_of_le_length (by omega)]
  by_cases e : j = s.length
  ·subst e
   rw [rd49_end, List.take_length]; exact hT
  ·rw [rd49_app (by omega)]
   exact h3 j (by omega)
theorem data_snoc {s : List S49} {d : Data} {T : S49} (h : dataB s d = true) (hv' : validB (s ++ [T]) = true) : dataB (s ++ [T]) (d ++ [[]]) = true := by
 obtain ⟨hv, hl, hT⟩ := (data_iff s d).1 h
 refine (data_iff _ _).2 ⟨hv', by simp [hl], fun n hn => ?_⟩
 rw [List.length_append, List.length_singleton] at hn
 by_cases e : n = s.length
 ·have e0 : rd_L13 (d ++ [[]]) (n : Int) = [] := by rw [e, ← hl]; exact rd13_end d []
  unfold TabOk
  rw [e0]
  refine ⟨by simp, rfl, List.all_eq_true.2 fun k _ => rfl, List.all_eq_true.2 fun r _ => ?_⟩
  unfold refHB
  rw [e0]; rfl
 ·have hn2 : n < s.length := by omega
  obtain ⟨g1, g2, g3, g4⟩ := hT n hn2
  unfold TabOk
  rw [rd49_app hn2, rd13_app (by omega)]
  refine ⟨g1, g2, g3, ?_⟩
  rw [List.all_eq_true] at g4 ⊢
  intro r hr
  have h2 := g4 r hr
  obtain ⟨b1, b2⟩ := ref_before hv hn2 hr
  unfold refHB at h2 ⊢
  rw [rd13_app (by omega)]
  obtain ⟨m, hm⟩ := Int.eq_ofNat_of_zero_le b1
  rw [hm] at h2 b2 ⊢
  rw [rd49_app (by omega), rd13_app (by omega)]
  exact h2
theorem sort_strict {l : List Int} (h : l.Nodup) : (sortI l).Pairwise (· < ·) := by
 have h1 := sortI_sorted l
 have h2 : (sortI l).Nodup := ((sortI_perm l).nodup_iff).2 h
 exact (h1.and h2).imp (fun ⟨a, b⟩ => by omega)
theorem key_made {cols : List S78} {ks : List (List Int)} {l : List ByteArray} (hl : namesB l = true) (h : (keyS cols ks l).2 = 0) : ∃ k, (keyS cols ks l).1 = ks ++ [k] ∧ keyB (cols.length : Int) k = true := by
 unfold keyS at h ⊢
 split at h
 ·rename_i q
  rw [if_pos q]
  refine ⟨_, rfl, ?_⟩
  obtain ⟨h1, h2⟩ := askE_zero (by decide) q
  obtain ⟨_, h3⟩ := askE_zero (by decide) h1
  have h4 : -1 ∉ colsN cols l := by simpa using h3
  have h5 : distP [] (colsN cols l) = true := by simpa using h2
  unfold keyB
  have hlen : (sortI (colsN cols l)).length = l.length := by rw [(sortI_perm _).length_eq, colsN_len]
  unfold namesB at hl
  rw [Bool.and_eq_true, decide_eq_true_eq] at hl
  rw [if_neg (by rw [hlen]; omega)]
  refine pw_ris (sort_strict ((dist_nodup _).1 h5)) fun x hx => ?_
  exact (colsN_range cols l x ((sortI_perm _).mem_iff.1 hx)).elim (fun e => absurd (e ▸ ((sortI_perm _).mem_iff.1 hx)) h4) id
 ·rename_i q
  exact absurd h q
theorem keys_made (cols : List S78) : ∀ (keys : List (List ByteArray)) (ks : List (List Int)), (∀ l ∈ keys, namesB l = true) → (∀ k ∈ ks, keyB (cols.length : Int) k = true) → (keysF cols keys ks).2 = 0 →
  (keysF cols keys ks).1.length = ks.length + keys.length ∧ ∀ k ∈ (keysF cols keys ks).1, keyB (cols.length : Int) k = true
 | [], ks, _, h, _ => ⟨rfl, h⟩
 | l :: r, ks, hl, h, h0 => by
  rw [keysF] at h0 ⊢
  by_cases q : (keyS cols ks l).2 = 0
  ·rw [if_pos q] at h0 ⊢
   obtain ⟨k, e1, e2⟩ := key_made (hl l (by simp)) q
   rw [e1] at h0 ⊢
   obtain ⟨a, b⟩ := keys_made cols r (ks ++ [k]) (fun x hx => hl x (by simp [hx])) (fun x hx => by
    rcases List.mem_append.1 hx with hx | hx
    ·exact h x hx
    ·rw [List.mem_singleton.1 hx]; exact e2) h0
   exact ⟨by rw [a]; simp; omega, b⟩
  ·rw [if_neg q] at h0
   exact absurd h0 q
theorem kindsG_all (tc oc : List S78) (all key : List Int) : ∀ (g i : Nat), (∀ j : Nat, i ≤ j → j < i + g → 0 ≤ rd all (j : Int) ∧ rd all (j : Int) < (tc.length : Int) ∧ (rd_T78 tc (rd all (j : Int))).f1 = (rd_T78 oc (rd key (j : Int))).f1) → kindsG tc oc all key g i = true
 | 0, _, _ => rfl
 | g + 1, i, h => by
  obtain ⟨h1, h2, h3⟩ := h i (Nat.le_refl _) (by omega)
  rw [kindsG, if_neg (by omega), if_neg (by omega), if_pos h3]
  exact kindsG_all tc oc all key g (i + 1) (fun j a b => h j (by omega) (by omega))
theorem kindsE_all (cols oc : List S78) (cs ns : List Int) : ∀ (l : List Int), kindsE cols oc cs ns l 0 = 0 → ∀ c ∈ l, (rd_T78 cols (rd cs (idxI c 0 ns))).f1 = (rd_T78 oc c).f1
 | [], _, c, hc => by cases hc
 | x :: r, h, c, hc => by
  rw [kindsE] at h
  have hx : (rd_T78 cols (rd cs (idxI x 0 ns))).f1 = (rd_T78 oc x).f1 := by
   refine Decidable.byContradiction fun q => ?_
   have e : ((rd_T78 cols (rd cs (idxI x 0 ns))).f1 != (rd_T78 oc x).f1) = true := by simpa using q
   rw [e] at h
   have e2 : askE 0 true 79 = 79 := rfl
   rw [e2, kindsE_stay _ _ _ _ _ _ (by decide)] at h
   exact absurd h (by decide)
  have e : ((rd_T78 cols (rd cs (idxI x 0 ns))).f1 != (rd_T78 oc x).f1) = false := by simpa using hx
  rw [e] at h
  have e2 : askE 0 false 79 = 0 := rfl
  rw [e2] at h
  rcases List.mem_cons.1 hc with rfl | hc
  ·exact hx
  ·exact kindsE_all cols oc cs ns r h c hc
theorem idxP_hit {α : Type} (p : α → Bool) : ∀ (l : List α) (i : Nat), 0 ≤ idxP p i l → ∃ j x, idxP p i l = ((i + j : Nat) : Int) ∧ l[j]? = some x ∧ p x = true
 | [], i, h => by rw [idxP] at h; omega
 | x :: r, i, h => by
  rw [idxP] at h ⊢
  by_cases q : p x = true
  ·rw [if_pos q]
   exact ⟨0, x, rfl, rfl, q⟩
  ·rw [if_neg q] at h ⊢
   obtain ⟨j, y, h1, h2, h3⟩ := idxP_hit p r (i + 1) h
   exact ⟨j + 1, y, by rw [h1]; congr 1; omega, by simpa using h2, h3⟩
theorem idxI_at {l : List Int} (h : l.Nodup) {c : Int} (hc : c ∈ l) : ∃ j, ∃ hj : j < l.length, idxI c 0 l = (j : Int) ∧ l[j] = c := by
 have hr := (idxI_range c l 0).1 hc
 have hj : (idxI c 0 l).toNat < l.length := by omega
 exact ⟨(idxI c 0 l).toNat, hj, by omega, (idxI_iff h hc hj).2 rfl⟩
theorem refE_parts {cs ns : List Int} {d : S105} (h : refE cs ns d = 0) : -1 ∉ cs ∧ d.f0.Nodup ∧ d.f0.length = d.f2.length ∧ -1 ∉ ns ∧ d.f2.Nodup := by
 unfold refE at h
 obtain ⟨h, a5⟩ := askE_zero (by decide) h
 obtain ⟨h, a4⟩ := askE_zero (by decide) h
 obtain ⟨h, a3⟩ := askE_zero (by decide) h
 obtain ⟨h, a2⟩ := askE_zero (by decide) h
 obtain ⟨_, a1⟩ := askE_zero (by decide) h
 have b2 : distP [] d.f0 = true := by simpa using a2
 have b5 : distP [] d.f2 = true := by simpa using a5
 have b3 : (d.f0.length : Int) = (d.f2.length : Int) := by simpa using a3
 exact ⟨of_decide_eq_false a1, (dist_nodup _).1 b2, by omega, of_decide_eq_false a4, (dist_nodup _).1 b5⟩
theorem ref_made {s : List S49} {cols : List S78} {rs : List S75} {d : S105} (h : (refS s cols rs d).2 = 0) : ∃ r, (refS s cols rs d).1 = rs ++ [r] ∧ refB s cols r = true := by
 by_cases q1 : findP d.f1 0 s < 0
 ·rw [refS_none q1] at h; exact absurd h (by simp)
 have hfr := findP_range d.f1 s 0
 obtain ⟨n, hn⟩ := Int.eq_ofNat_of_zero_le (show 0 ≤ findP d.f1 0 s by omega)
 have hns : n < s.length := by omega
 unfold refS at h ⊢
 rw [if_neg q1] at h ⊢
 rw [hn] at h ⊢
 generalize ho : rd_T49 s (n : Int) = T at *
 generalize hcs : colsN cols d.f0 = cs at *
 generalize hnn : colsN T.f1 d.f2 = ns at *
 by_cases q2 : refE cs ns d = 0
 case neg => rw [if_neg q2] at h; exact absurd h q2
 rw [if_pos q2] at h ⊢
 obtain ⟨a1, a2, a3, a4, a5⟩ := refE_parts q2
 by_cases q3 : idxP (fun key => eqI key (sortI ns)) 0 T.f2 < 0
 ·rw [if_pos q3] at h; exact absurd h (by simp)
 rw [if_neg q3] at h ⊢
 refine ⟨_, rfl, ?_⟩
 obtain ⟨m, key, hm, hk, hp⟩ := idxP_hit (fun key => eqI key (sortI ns)) T.f2 0 (by omega)
 rw [Nat.zero_add] at hm
 have hkey : key = sortI ns := of_decide_eq_true hp
 subst hkey
 have hmlt : m < T.f2.length := by
  rcases Nat.lt_or_ge m T.f2.length with hh | hh
  ·exact hh
  ·rw [List.getElem?_eq_none hh] at hk; cases hk
 have hL : rd_L6 T.f2 (m : Int) = sortI ns := by
  rw [rdL6 hmlt]
  rw [List.getElem?_eq_getElem hmlt] at hk
  exact Option.some.inj hk
 have hcsN : cs.Nodup := by rw [← hcs]; exact colsN_nodup _ _ a2 (by rw [hcs]; exact a1)
 have hnsN : ns.Nodup := by rw [← hnn]; exact colsN_nodup _ _ a5 (by rw [hnn]; exact a4)
 have hlen : cs.length = ns.length := by rw [← hcs, ← hnn, colsN_len, colsN_len]; exact a3
 have hF : ∀ c ∈ ns, ∃ j, ∃ hj : j < ns.length, idxI c 0 ns = (j : Int) ∧ ns[j] = c ∧ rd cs (idxI c 0 ns) = cs[j] := fun c hc => by
  obtain ⟨j, hj, e1, e2⟩ := idxI_at hnsN hc
  exact ⟨j, hj, e1, e2, by rw [e1, rd_at (by omega)]⟩
 rw [hm]
 unfold refB
 simp only []
 rw [if_neg (by omega), if_neg (by omega), if_neg (by omega), ho, if_neg (by omega), hL, if_pos (by rw [List.length_map]), Bool.and_eq_true]
 constructor
 ·refine kindsG_all _ _ _ _ _ _ fun j _ hj => ?_
  rw [List.length_map] at hj
  have hj2 : j < (sortI ns).length := by omega
  rw [rd_at (by rw [List.length_map]; exact hj2), rd_at hj2, List.getElem_map]
  have hmem : (sortI ns)[j] ∈ sortI ns := List.getElem_mem hj2
  obtain ⟨i, hi, e1, e2, e3⟩ := hF _ ((sortI_perm ns).mem_iff.1 hmem)
  have hr : cs[i] = -1 ∨ 0 ≤ cs[i] ∧ cs[i] < (cols.length : Int) := by
   have := colsN_range cols d.f0 cs[i] (by rw [hcs]; exact List.getElem_mem _)
   exact this
  have hr2 := hr.elim (fun e => absurd (by rw [← e]; exact List.getElem_mem _) a1) id
  refine ⟨by rw [e3]; exact hr2.1, by rw [e3]; exact hr2.2, ?_⟩
  exact kindsE_all _ _ _ _ _ h _ hmem
 ·refine (dist_nodup _).2 ?_
  unfold List.Nodup
  rw [List.pairwise_map]
  have hs : (sortI ns).Nodup := ((sortI_perm ns).nodup_iff).2 hnsN
  refine List.Pairwise.imp_of_mem ?_ hs
  intro a b ha hb hab e
  obtain ⟨i, hi, e1, e2, e3⟩ := hF a ((sortI_perm ns).mem_iff.1 ha)
  obtain ⟨i', hi', e1', e2', e3'⟩ := hF b ((sortI_perm ns).mem_iff.1 hb)
  rw [e3, e3'] at e
  have : i = i' := (List.getElem_inj hcsN).1 e
  subst this
  exact hab (e2.symm.trans e2')
theorem refs_made (s : List S49) (cols : List S78) : ∀ (refs : List S105) (rs : List S75), (∀ r ∈ rs, refB s cols r = true) → (refsF s cols refs rs).2 = 0 →
  (refsF s cols refs rs).1.length = rs.length + refs.length ∧ ∀ r ∈ (refsF s cols refs rs).1, refB s cols r = true
 | [], rs, h, _ => ⟨rfl, h⟩
 | l :: r, rs, h, h0 => by
  rw [refsF] at h0 ⊢
  by_cases q : (refS s cols rs l).2 = 0
  ·rw [if_pos q] at h0 ⊢
   obtain ⟨k, e1, e2⟩ := ref_made q
   rw [e1] at h0 ⊢
   obtain ⟨a, b⟩ := refs_made s cols r (rs ++ [k]) (fun x hx => by
    rcases List.mem_append.1 hx with hx | hx
    ·exact h x hx
    ·rw [List.mem_singleton.1 hx]; exact e2) h0
   exact ⟨by rw [a]; simp; omega, b⟩
  ·rw [if_neg q] at h0
   exact absurd h0 q
theorem findP_none (nm : ByteArray) : ∀ (s : List S49) (i : Nat), findP nm i s < 0 → nm ∉ s.map (·.f0)
 | [], _, _ => by simp
 | t :: r, i, h => by
  rw [findP] at h
  split at h
  ·omega
  ·rename_i q
   rw [List.map_cons, List.mem_cons]
   rintro (e | e)
   ·exact q (by rw [e])
   ·exact findP_none nm r (i + 1) h e
theorem create_keeps {s : List S49} {d : Data} {nm : ByteArray} {defs : List S109} {keys : List (List ByteArray)} {refs : List S105} (h : dataB s d = true) (h0 : (createP true s d nm defs keys refs).2.2 = 0) :
  dataB (createP true s d nm defs keys refs).1 (createP true s d nm defs keys refs).2.1 = true := by
 have e0 : err0 true s nm defs keys refs = 0 := by
  refine Decidable.byContradiction fun q => ?_
  unfold createP at h0
  have k1 : keysE (err0 true s nm defs keys refs) (defs.map madeC) keys [] = ([], err0 true s nm defs keys refs) := by unfold keysE; rw [if_neg q]
  have k2 : refsE (err0 true s nm defs keys refs) s (defs.map madeC) refs [] = ([], err0 true s nm defs keys refs) := by unfold refsE; rw [if_neg q]
  rw [k1] at h0
  simp only [k2] at h0
  rw [if_neg q] at h0
  exact q h0
 obtain ⟨-, p1, p2, p3, p4, p5, p6, p7, p8, p9, p10⟩ := err0_parts e0
 have e1 : (keysF (defs.map madeC) keys []).2 = 0 := by
  refine Decidable.byContradiction fun q => ?_
  unfold createP at h0
  have k1 : keysE (err0 true s nm defs keys refs) (defs.map madeC) keys [] = keysF (defs.map madeC) keys [] := by unfold keysE; rw [if_pos e0]
  rw [k1] at h0
  have k2 : refsE (keysF (defs.map madeC) keys []).2 s (defs.map madeC) refs [] = ([], (keysF (defs.map madeC) keys []).2) := by unfold refsE; rw [if_neg q]
  simp only [k2] at h0
  rw [if_neg q] at h0
  exact q h0
 rw [createP_refs e0 e1] at h0 ⊢
 by_cases e2 : (refsF s (defs.map madeC) refs []).2 = 0
 case neg => rw [if_neg e2] at h0; exact absurd h0 e2
 rw [if_pos e2]
 have hv := ((data_iff s d).1 h).1
 obtain ⟨m1, m2⟩ := keys_made (defs.map madeC) keys [] (fun l hl => by
  have := List.any_eq_false.1 p3 l hl
  simpa using this) (fun k hk => by cases hk) e1
 obtain ⟨m3, m4⟩ := refs_made s (defs.map madeC) refs [] (fun k hk => by cases hk) e2
 have hdef : ∀ x ∈ defs, defB x = true := fun x hx => by
  have := List.any_eq_false.1 p2 x hx
  simpa using this
 refine data_snoc h (valid_snoc hv p6 (findP_none nm s 0 p5) ((tabB_iff _ _).2 ⟨p1, by simpa using p7, ?_, ?_, ?_, ?_, ?_, ?_, m4⟩))
 ·simp only [m1]; simpa using p8
 ·simp only [m3]; simpa using p9
 ·rfl
 ·have e : (defs.map madeC).map (·.f0) = defs.map fun x => x.f0 := by rw [List.map_map]; rfl
  simp only [e]; exact p10
 ·refine List.all_eq_true.2 fun c hc => ?_
  obtain ⟨x, hx, rfl⟩ := List.mem_map.1 hc
  exact made_col (hdef x hx)
 ·exact m2
theorem findB_at {s : List S49} {nm : ByteArray} (q : (findB s nm).2 = true) : ∃ n : Nat, n < s.length ∧ findB s nm = ((n : Int), true) := by
 have hr := refFindP_range (s := s) (nm := nm) (n := (findB s nm).1) (by rw [refFind_is, ← q])
 obtain ⟨n, hn⟩ := Int.eq_ofNat_of_zero_le hr.1
 exact ⟨n, by omega, by rw [← hn, ← q]⟩
theorem insB_keeps {s : List S49} {d : Data} {nm : ByteArray} {rows : Rows} (h : dataB s d = true) (h0 : (insB s d nm rows).2 = 0) : dataB s (insB s d nm rows).1 = true := by
 by_cases q : (findB s nm).2 = true
 ·obtain ⟨n, hn, hf⟩ := findB_at q
  rw [insB_at nm rows h hf] at h0 ⊢
  obtain ⟨a1, a2⟩ := insAt_iff h hn rows
  by_cases g : dataB s (d.set n (rd_L13 d (n : Int) ++ rows)) = true
  ·rw [a1 g]; exact g
  ·exact absurd h0 (a2 g).2
 ·exact absurd h0 (insB_not nm rows (fun e => q e.2)).2
theorem left_mem : ∀ (rows : Rows) (gone : List Bool), (leftP rows gone).Sublist rows
 | [], gone => by cases gone <;> simp [leftP]
 | x :: r, [] => by simp [leftP]
 | x :: r, g :: q => by
  rw [leftP]
  split
  ·exact (left_mem r q).cons _
  ·exact (left_mem r q).cons_cons _
theorem errs_sub {t : S49} {a b : Rows} (hs : a.Sublist b) : errsP t b = 0 → errsP t a = 0 := by
 induction hs with
 | slnil => exact id
 | cons x hs ih =>
  intro h
  rw [errsP] at h
  split at h
  ·exact ih h
  ·rename_i q; exact absurd h q
 | cons_cons x hs ih =>
  intro h
  rw [errsP] at h ⊢
  split at h
  ·rename_i q; rw [if_pos q]; exact ih h
  ·rename_i q; exact absurd h q
theorem KB_sub {key : List Int} {a b : Rows} (hs : a.Sublist b) : ∀ p p' : Rows, (∀ x ∈ p', x ∈ p) → KB key p b = true → KB key p' a = true := by
 induction hs with
 | slnil => intro p p' _ _; rfl
 | cons x hs ih =>
  intro p p' hp h
  rw [KB] at h
  split at h
  ·cases h
  ·exact ih _ p' (fun y hy => List.mem_append_left _ (hp y hy)) h
 | cons_cons x hs ih =>
  intro p p' hp h
  rw [KB] at h ⊢
  split at h
  ·cases h
  ·rename_i q
   rw [if_neg (fun e => q ?_)]
   ·refine ih _ _ (fun y hy => ?_) h
    rcases List.mem_append.1 hy with hy | hy
    ·exact List.mem_append_left _ (hp y hy)
    ·exact List.mem_append_right _ hy
   ·rw [Bool.and_eq_true] at e ⊢
    refine ⟨e.1, ?_⟩
    obtain ⟨y, hy, e2⟩ := List.any_eq_true.1 e.2
    exact List.any_eq_true.2 ⟨y, hp y hy, e2⟩
theorem from_at (s : List S49) (d : Data) : ∀ (g m : Nat), fromB s d g m = true → ∀ j, m ≤ j → j < m + g → (rd_T49 s (j : Int)).f3.all (refHB s d j) = true
 | 0, m, _, j, a, b => by omega
 | g + 1, m, h, j, a, b => by
  rw [fromB, Bool.and_eq_true] at h
  by_cases e : j = m
  ·rw [e]; exact h.1
  ·exact from_at s d g (m + 1) h.2 j (by omega) (by omega)
theorem delB_keeps {s : List S49} {d : Data} {nm : ByteArray} {gone : List Bool} (h : dataB s d = true) (h0 : (delB s d nm gone).2 = 0) : dataB s (delB s d nm gone).1 = true := by
 unfold delB at h0 ⊢
 rw [if_pos h] at h0 ⊢
 by_cases q : (findB s nm).2 = true
 case neg => rw [if_neg q] at h0; exact absurd h0 (by simp)
 obtain ⟨n, hn, hf⟩ := findB_at q
 rw [hf, if_pos rfl] at h0 ⊢
 simp only [Int.toNat_natCast] at h0 ⊢
 unfold delAtB at h0 ⊢
 by_cases q1 : gone.length = (rd_L13 d (n : Int)).length
 case neg => rw [if_neg q1] at h0; exact absurd h0 (by simp)
 rw [if_pos q1] at h0 ⊢
 by_cases q2 : fromB s (d.set n (leftP (rd_L13 d (n : Int)) gone)) (s.length - (n + 1)) (n + 1) = true
 case neg => rw [if_neg q2] at h0; exact absurd h0 (by simp)
 rw [if_pos q2]
 obtain ⟨hv, hl, hT⟩ := (data_iff s d).1 h
 have hsub := left_mem (rd_L13 d (n : Int)) gone
 refine (data_iff s _).2 ⟨hv, by rw [List.length_set]; exact hl, fun m hm => ?_⟩
 obtain ⟨g1, g2, g3, g4⟩ := hT m hm
 have hall : (rd_T49 s (m : Int)).f3.all (refHB s (d.set n (leftP (rd_L13 d (n : Int)) gone)) m) = true := by
  by_cases e : m ≤ n
  ·exact del_before h hn _ (fun x hx => hsub.mem hx) m e
  ·exact from_at s _ _ _ q2 m (by omega) (by omega)
 unfold TabOk
 rw [rd13_set (by omega)]
 by_cases e : m = n
 ·subst e
  rw [if_pos rfl]
  refine ⟨Nat.le_trans hsub.length_le g1, errs_sub hsub g2, ?_, hall⟩
  rw [List.all_eq_true] at g3 ⊢
  exact fun k hk => KB_sub hsub _ _ (fun x hx => hx) (g3 k hk)
 ·rw [if_neg e]
  exact ⟨g1, g2, g3, hall⟩
theorem errs_cols {t t' : S49} (h : t.f1 = t'.f1) : ∀ rows : Rows, errsP t rows = errsP t' rows
 | [] => rfl
 | x :: r => by rw [errsP, errsP, h, errs_cols h r]
theorem data_with {s : List S49} {d : Data} {n : Nat} {l : List Int} (h : dataB s d = true) (hn : n < s.length) (hv' : validB (withIx s n l) = true) : dataB (withIx s n l) d = true := by
 obtain ⟨hv, hl, hT⟩ := (data_iff s d).1 h
 have hlen : (withIx s n l).length = s.length := by simp [withIx]
 have hf : ∀ j : Nat, j < s.length → (rd_T49 (withIx s n l) (j : Int)).f1 = (rd_T49 s (j : Int)).f1 ∧ (rd_T49 (withIx s n l) (j : Int)).f2 = (rd_T49 s (j : Int)).f2 ∧ (rd_T49 (withIx s n l) (j : Int)).f3 = (rd_T49 s (j : Int)).f3 := fun j hj => by
  rw [with_at _ _ _ _ hj]
  split
  ·rename_i e; subst e; exact ⟨rfl, rfl, rfl⟩
  ·exact ⟨rfl, rfl, rfl⟩
 refine (data_iff _ _).2 ⟨hv', by rw [hlen]; exact hl, fun m hm => ?_⟩
 rw [hlen] at hm
 obtain ⟨g1, g2, g3, g4⟩ := hT m hm
 obtain ⟨f1, f2, f3⟩ := hf m hm
 unfold TabOk
 rw [f2, f3, errs_cols f1]
 refine ⟨g1, g2, g3, ?_⟩
 rw [List.all_eq_true] at g4 ⊢
 intro r hr
 have h2 := g4 r hr
 obtain ⟨b1, b2⟩ := ref_before hv hm hr
 obtain ⟨k, hk⟩ := Int.eq_ofNat_of_zero_le b1
 unfold refHB at h2 ⊢
 rw [hk] at h2 b2 ⊢
 rw [(hf k (by omega)).2.1]
 exact h2
theorem add_keeps {s : List S49} {d : Data} {nm cn : ByteArray} (h : dataB s d = true) (h0 : (addG true s nm cn).2 = 0) : dataB (addG true s nm cn).1 d = true := by
 obtain ⟨-, h2, ⟨n, l, e, hn, -⟩, -⟩ := add_back (fun _ => ((data_iff s d).1 h).1) h0
 rw [e] at h2 ⊢
 exact data_with h hn h2
theorem rmv_keeps {s : List S49} {d : Data} {nm cn : ByteArray} (h : dataB s d = true) (h0 : (rmvG true s nm cn).2 = 0) : dataB (rmvG true s nm cn).1 d = true := by
 have hv := ((data_iff s d).1 h).1
 have hrng := fun n c h => placeG_range (v := true) (s := s) (nm := nm) (cn := cn) (n := n) (c := c) h
 unfold rmvG at h0 ⊢
 generalize placeG true s nm cn = p at *
 obtain ⟨pn, pc, pe⟩ := p
 simp only at h0 hrng ⊢
 by_cases q : pe = 0
 case neg => rw [if_neg q] at h0; exact absurd h0 q
 subst q
 obtain ⟨-, h1, h2, h3, h4⟩ := hrng _ _ rfl
 obtain ⟨n, rfl⟩ := Int.eq_ofNat_of_zero_le h1
 have hn : n < s.length := by omega
 rw [if_pos rfl] at h0 ⊢
 by_cases q2 : (rd_T49 s (n : Int)).f4.any (· == pc) = true
 case neg => rw [if_neg q2] at h0; exact absurd h0 (by decide)
 rw [if_pos q2]
 simp only [Int.toNat_natCast]
 have hris := (tabB_more ((validB_at hv).2 n hn)).2.2
 have hl : risB ((rd_T49 s (n : Int)).f4.filter (· != pc)) ((rd_T49 s (n : Int)).f1.length : Int) = true :=
  pw_ris ((ris_pw hris).sublist List.filter_sublist) (fun x hx => risB_in hris x (List.mem_filter.1 hx).1)
 have hw : s.set n (setIx (rd_T49 s (n : Int)) ((rd_T49 s (n : Int)).f4.filter (· != pc))) = withIx s n ((rd_T49 s (n : Int)).f4.filter (· != pc)) := rfl
 rw [hw]
 exact data_with h hn (with_valid hv hn hl)
def upI (n j : Nat) : Nat := if j < n then j else j + 1
theorem upI_mono {n a b : Nat} (h : upI n a < upI n b) : a < b := by unfold upI at h; split at h <;> split at h <;> omega
theorem rd49_drop {s : List S49} {n j : Nat} (hn : n < s.length) (hj : j < s.length - 1) : rd_T49 ((s.map (shT (n : Int))).eraseIdx n) (j : Int) = shT (n : Int) (rd_T49 s (upI n j : Nat)) := by
 have hl : ((s.map (shT (n : Int))).eraseIdx n).length = s.length - 1 := by rw [List.length_eraseIdx_of_lt (by simpa using hn), List.length_map]
 have hu : upI n j < s.length := by unfold upI; split <;> omega
 rw [rdT49 (by omega), rdT49 hu, List.getElem_eraseIdx]
 unfold upI
 split
 ·rw [List.getElem_map]
 ·rw [List.getElem_map]
theorem rd13_drop {d : Data} {n j : Nat} (hn : n < d.length) (hj : j < d.length - 1) : rd_L13 (d.eraseIdx n) (j : Int) = rd_L13 d (upI n j : Nat) := by
 have hl : (d.eraseIdx n).length = d.length - 1 := List.length_eraseIdx_of_lt hn
 have hu : upI n j < d.length := by unfold upI; split <;> omega
 rw [rdL13 (by omega), rdL13 hu, List.getElem_eraseIdx]
 unfold upI
 split <;> rfl
theorem shR_up {n : Nat} {r : S75} (h1 : 0 ≤ r.f1) (h2 : r.f1 ≠ (n : Int)) : ∃ m : Nat, (shR (n : Int) r).f1 = (m : Int) ∧ r.f1 = ((upI n m : Nat) : Int) := by
 obtain ⟨k, hk⟩ := Int.eq_ofNat_of_zero_le h1
 unfold shR
 by_cases q : (n : Int) < r.f1
 ·rw [if_pos q]
  refine ⟨k - 1, by show r.f1 - 1 = _; omega, ?_⟩
  unfold upI
  rw [if_neg (by omega)]; omega
 ·rw [if_neg q]
  refine ⟨k, hk, ?_⟩
  unfold upI
  rw [if_pos (by omega)]; exact hk
theorem erase_map {α β : Type} (f : α → β) : ∀ (l : List α) (n : Nat), (l.map f).eraseIdx n = (l.eraseIdx n).map f
 | [], _ => rfl
 | x :: r, 0 => rfl
 | x :: r, n + 1 => by
  rw [List.map_cons, List.eraseIdx_cons_succ, List.eraseIdx_cons_succ, List.map_cons, erase_map f r n]
theorem refB_moved {b b' : List S49} {tc : List S78} {r r' : S75} (h0 : r'.f0 = r.f0) (h2 : r'.f2 = r.f2) (a1 : 0 ≤ r.f1) (a2 : r.f1 < (b.length : Int)) (b1 : 0 ≤ r'.f1) (b2 : r'.f1 < (b'.length : Int)) (e1 : (rd_T49 b' r'.f1).f1 = (rd_T49 b r.f1).f1) (e2 : (rd_T49 b' r'.f1).f2 = (rd_T49 b r.f1).f2) : refB b' tc r' = refB b tc r := by
 unfold refB
 rw [if_neg (by omega), if_neg (by omega), if_neg (show ¬ r.f1 < 0 by omega), if_neg (show ¬ r.f1 ≥ (b.length : Int) by omega), h0, h2, e1, e2]
theorem drop_keeps {s : List S49} {d : Data} {nm : ByteArray} (h : dataB s d = true) (h0 : (dropB s d nm).2.2 = 0) : dataB (dropB s d nm).1 (dropB s d nm).2.1 = true := by
 unfold dropB at h0 ⊢
 rw [if_pos h] at h0 ⊢
 by_cases q : (findB s nm).2 = true
 case neg => rw [if_neg q] at h0; exact absurd h0 (by simp)
 obtain ⟨n, hn, hf⟩ := findB_at q
 rw [hf, if_pos rfl] at h0 ⊢
 simp only [Int.toNat_natCast] at h0 ⊢
 unfold dropAt at h0 ⊢
 by_cases q1 : s.any (useT (n : Int)) = true
 case pos => rw [if_pos q1] at h0; exact absurd h0 (by simp)
 rw [if_neg q1]
 obtain ⟨hv, hl, hT⟩ := (data_iff s d).1 h
 obtain ⟨v1, v2, v3⟩ := (valid_iff s).1 hv
 have hlen : ((s.map (shT (n : Int))).eraseIdx n).length = s.length - 1 := by rw [List.length_eraseIdx_of_lt (by simpa using hn), List.length_map]
 have hld : (d.eraseIdx n).length = d.length - 1 := List.length_eraseIdx_of_lt (by omega)
 have hup : ∀ j, j < s.length - 1 → upI n j < s.length := fun j hj => by unfold upI; split <;> omega
 have href : ∀ j, j < s.length - 1 → ∀ r ∈ (rd_T49 s (upI n j : Nat)).f3, ∃ m : Nat, (shR (n : Int) r).f1 = (m : Int) ∧ r.f1 = ((upI n m : Nat) : Int) ∧ m < j ∧ upI n m < upI n j := fun j hj r hr => by
  obtain ⟨b1, b2⟩ := ref_before hv (hup j hj) hr
  have hne : r.f1 ≠ (n : Int) := fun e => by
   refine q1 (List.any_eq_true.2 ⟨s[upI n j]'(hup j hj), List.getElem_mem _, ?_⟩)
   rw [rdT49 (hup j hj)] at hr
   unfold useT
   exact List.any_eq_true.2 ⟨r, hr, by rw [e]; exact beq_iff_eq.mpr rfl⟩
  obtain ⟨m, e1, e2⟩ := shR_up b1 hne
  have h3 : upI n m < upI n j := by omega
  exact ⟨m, e1, e2, upI_mono h3, h3⟩
 have hv' : validB ((s.map (shT (n : Int))).eraseIdx n) = true := by
  refine (valid_iff _).2 ⟨by omega, ?_, fun j hj => ?_⟩
  ·rw [erase_map, List.map_map]
   have e : ((fun x : S49 => x.f0) ∘ shT (n : Int)) = fun x : S49 => x.f0 := rfl
   rw [e]
   exact v2.sublist ((List.eraseIdx_sublist s n).map _)
  ·rw [hlen] at hj
   have hT2 := (tabB_iff _ _).1 (v3 _ (hup j hj))
   rw [rd49_drop hn hj]
   obtain ⟨a0, a1, a2, a3, a4, a5, a6, a7, a8⟩ := hT2
   refine (tabB_iff _ _).2 ⟨a0, a1, a2, by show ((rd_T49 s (upI n j : Nat)).f3.map _).length ≤ 4; rw [List.length_map]; exact a3, a4, a5, a6, a7, fun r' hr' => ?_⟩
   obtain ⟨r, hr, rfl⟩ := List.mem_map.1 (show r' ∈ (rd_T49 s (upI n j : Nat)).f3.map (shR (n : Int)) from hr')
   obtain ⟨m, e1, e2, e3, e4⟩ := href j hj r hr
   have h8 := a8 r hr
   have hu := hup j hj
   refine (refB_moved (b := s.take (upI n j)) (tc := (rd_T49 s (upI n j : Nat)).f1) ?_ ?_ (by omega) (by rw [List.length_take]; omega) (by omega) (by rw [List.length_take]; omega) ?_ ?_).trans h8
   ·unfold shR; split <;> rfl
   ·unfold shR; split <;> rfl
   ·rw [e1, e2, rd49_take (by omega) (by omega), rd49_take (by omega) (by omega), rd49_drop hn (by omega)]; rfl
   ·rw [e1, e2, rd49_take (by omega) (by omega), rd49_take (by omega) (by omega), rd49_drop hn (by omega)]; rfl
 refine (data_iff _ _).2 ⟨hv', by rw [hlen, hld, hl], fun j hj => ?_⟩
 simp only [hlen] at hj
 obtain ⟨g1, g2, g3, g4⟩ := hT _ (hup j hj)
 unfold TabOk
 simp only
 rw [rd49_drop hn hj, rd13_drop (by omega) (by omega)]
 refine ⟨g1, (errs_cols (t := shT (n : Int) (rd_T49 s (upI n j : Nat))) (t' := rd_T49 s (upI n j : Nat)) rfl _).trans g2, g3, ?_⟩
 rw [List.all_eq_true] at g4 ⊢
 intro r' hr'
 obtain ⟨r, hr, rfl⟩ := List.mem_map.1 (show r' ∈ (rd_T49 s (upI n j : Nat)).f3.map (shR (n : Int)) from hr')
 obtain ⟨m, e1, e2, e3, e4⟩ := href j hj r hr
 have h2 := g4 r hr
 unfold refHB at h2 ⊢
 have e5 : (shR (n : Int) r).f0 = r.f0 := by unfold shR; split <;> rfl
 have e6 : (shR (n : Int) r).f2 = r.f2 := by unfold shR; split <;> rfl
 rw [e1, e5, e6, rd49_drop hn (by omega), rd13_drop (by omega) (by omega), rd13_drop (by omega) (by omega)]
 rw [e2] at h2
 exact h2
theorem fits_ne (c : S78) (x : S64) : fitsP c x ≠ 1 := by
 unfold fitsP
 repeat' split
 all_goals decide
theorem fitsL_ne : ∀ (cs : List S78) (xs : List S64), fitsL cs xs ≠ 1
 | [], xs => by cases xs <;> simp [fitsL]
 | c :: cs, [] => by simp [fitsL]
 | c :: cs, x :: xs => by
  rw [fitsL]
  split
  ·exact fitsL_ne cs xs
  ·exact fits_ne c x
theorem errs_ne (t : S49) : ∀ rows : Rows, errsP t rows ≠ 1
 | [] => by simp [errsP]
 | x :: r => by
  rw [errsP]
  split
  ·exact errs_ne t r
  ·unfold fitsRowP
   split
   ·exact fitsL_ne _ _
   ·decide
theorem insB_ne {s : List S49} {d : Data} {nm : ByteArray} {rows : Rows} (h : dataB s d = true) : (insB s d nm rows).2 ≠ 1 := by
 unfold insB insAtB
 rw [if_pos h]
 repeat' split
 all_goals first | exact errs_ne _ _ | (simp; done)
theorem delB_ne {s : List S49} {d : Data} {nm : ByteArray} {gone : List Bool} (h : dataB s d = true) : (delB s d nm gone).2 ≠ 1 := by
 unfold delB delAtB
 rw [if_pos h]
 repeat' split
 all_goals simp
theorem dropB_ne {s : List S49} {d : Data} {nm : ByteArray} (h : dataB s d = true) : (dropB s d nm).2.2 ≠ 1 := by
 unfold dropB dropAt
 rw [if_pos h]
 repeat' split
 all_goals simp
theorem placeG_ne (s : List S49) (nm cn : ByteArray) : (placeG true s nm cn).2.2 ≠ 1 := by
 unfold placeG
 rw [if_pos rfl]
 repeat' split
 all_goals simp
theorem addG_ne (s : List S49) (nm cn : ByteArray) : (addG true s nm cn).2 ≠ 1 := by
 unfold addG
 repeat' split
 all_goals first | exact placeG_ne _ _ _ | (simp; done)
theorem rmvG_ne (s : List S49) (nm cn : ByteArray) : (rmvG true s nm cn).2 ≠ 1 := by
 unfold rmvG
 repeat' split
 all_goals first | exact placeG_ne _ _ _ | (simp; done)
theorem nil_valid : dataB [] [] = true := by
 refine (data_iff _ _).2 ⟨(valid_iff _).2 ⟨by simp, by simp, fun j hj => by simp at hj⟩, rfl, fun n hn => by simp at hn⟩
theorem nm_size {s : ByteArray} (h : nmB s = true) : s.size ≤ 20 := by
 unfold nmB Lx.isNm at h
 simp only [Bool.and_eq_true, decide_eq_true_eq] at h
 have h2 : s.data.toList.length ≤ 20 := h.1.1.1.2
 have e : s.size = s.data.toList.length := (Array.length_toList).symm
 omega
theorem refB_facts {b : List S49} {tc : List S78} {r : S75} (h : refB b tc r = true) : r.f0.Nodup ∧ ∀ x ∈ r.f0, 0 ≤ x ∧ x < (tc.length : Int) := by
 unfold refB at h
 repeat' split at h
 all_goals first | cases h | skip
 rw [Bool.and_eq_true] at h
 refine ⟨(dist_nodup _).1 h.2, fun x hx => ?_⟩
 obtain ⟨j, hj, rfl⟩ := List.getElem_of_mem hx
 have := kindsG_in _ _ _ _ r.f0.length 0 (by omega) h.1 j (by omega) hj
 rw [rd_at hj] at this
 exact this
theorem wfT_valid {s : List S49} (hv : validB s = true) : ∀ t ∈ s, wfT t := fun t ht => by
 obtain ⟨n, hn, rfl⟩ := List.getElem_of_mem ht
 have h := ((valid_iff s).1 hv).2.2 n hn
 rw [rdT49 hn] at h
 obtain ⟨a0, a1, a2, a3, a4, a5, a6, a7, a8⟩ := (tabB_iff _ _).1 h
 refine ⟨by have := nm_size a0; omega, fun c hc => ?_, fun key hk => ?_, fun r hr => ?_, ?_⟩
 ·have h1 := List.all_eq_true.1 a6 c hc
  unfold colB at h1
  rw [Bool.and_eq_true] at h1
  have := nm_size h1.1
  omega
 ·have h1 := a7 key hk
  unfold keyB at h1
  split at h1
  ·cases h1
  ·have := risB_len h1 (by omega)
   omega
 ·obtain ⟨h1, h2⟩ := refB_facts (a8 r hr)
  have h3 := nodup_len _ s[n].f1.length h1 h2
  refine ⟨by omega, List.all_eq_true.2 fun x hx => ?_⟩
  have := h2 x hx
  have e1 : IntKind.i64.min = -9223372036854775808 := by decide
  have e2 : IntKind.i64.max = 9223372036854775807 := by decide
  show (decide (IntKind.i64.min ≤ x) && decide (x ≤ IntKind.i64.max)) = true
  rw [e1, e2, Bool.and_eq_true, decide_eq_true_eq, decide_eq_true_eq]
  omega
 ·have := risB_len a4 (by omega)
  omega
def Good (s : List S49) (d : Data) : Prop := dataB s d = true ∧ wfData d
theorem good_nil : Good [] [] := ⟨nil_valid, fun _ h => by cases h⟩
theorem good_facts {s : List S49} {d : Data} (h : Good s d) : validB s = true ∧ (∀ t ∈ s, wfT t) ∧ wfData d ∧ smallData d ∧ smallSch s ∧ s.length ≤ 16 ∧ (∀ t ∈ s, t.f1.length ≤ 8) ∧ (∀ t ∈ s, t.f4.Pairwise (· < ·)) ∧ d.length = s.length := by
 obtain ⟨hv, hl, hT⟩ := (data_iff s d).1 h.1
 have hat : ∀ t ∈ s, ∃ b, tabB b t = true := fun t ht => by
  obtain ⟨n, hn, rfl⟩ := List.getElem_of_mem ht
  have h := ((valid_iff s).1 hv).2.2 n hn
  rw [rdT49 hn] at h
  exact ⟨_, h⟩
 exact ⟨hv, wfT_valid hv, h.2, small_of h.1, smallS_of hv, ((valid_iff s).1 hv).1, fun t ht => by obtain ⟨b, hb⟩ := hat t ht; exact ((tabB_iff _ _).1 hb).2.1, fun t ht => by obtain ⟨b, hb⟩ := hat t ht; exact ris_pw ((tabB_iff _ _).1 hb).2.2.2.2.1, hl⟩
theorem set_wf {d : Data} {n : Nat} {x : Rows} (h : wfData d) (hx : wfRows x) : wfData (d.set n x) := fun rows hr => by
 rcases List.mem_or_eq_of_mem_set hr with hr | hr
 ·exact h rows hr
 ·rw [hr]; exact hx
theorem at_wf {d : Data} {n : Nat} (h : wfData d) : wfRows (rd_L13 d (n : Int)) := by
 by_cases q : n < d.length
 ·rw [rdL13 q]; exact h _ (List.getElem_mem q)
 ·have e : rd_L13 d (n : Int) = [] := by unfold rd_L13; simp [List.getD, List.getElem?_eq_none (Nat.le_of_not_lt q)]
  rw [e]; exact fun _ hr => by cases hr
theorem create_good {s : List S49} {d : Data} {nm : ByteArray} {defs : List S109} {keys : List (List ByteArray)} {refs : List S105} (h : Good s d) (h0 : (createP true s d nm defs keys refs).2.2 = 0) : Good (createP true s d nm defs keys refs).1 (createP true s d nm defs keys refs).2.1 := by
 refine ⟨create_keeps h.1 h0, ?_⟩
 unfold createP
 split
 ·intro rows hr
  rcases List.mem_append.1 hr with hr | hr
  ·exact h.2 rows hr
  ·rw [List.mem_singleton.1 hr]; exact fun _ hr => by cases hr
 ·exact fun _ h => by cases h
theorem drop_good {s : List S49} {d : Data} {nm : ByteArray} (h : Good s d) (h0 : (dropB s d nm).2.2 = 0) : Good (dropB s d nm).1 (dropB s d nm).2.1 := by
 refine ⟨drop_keeps h.1 h0, ?_⟩
 unfold dropB dropAt
 repeat' split
 all_goals first
  | exact fun _ h => by cases h
  | exact fun rows hr => h.2 rows ((List.eraseIdx_sublist _ _).mem hr)
theorem ins_good {s : List S49} {d : Data} {nm : ByteArray} {rows : Rows} (h : Good s d) (hr : wfRows rows) (h0 : (insB s d nm rows).2 = 0) : Good s (insB s d nm rows).1 := by
 refine ⟨insB_keeps h.1 h0, ?_⟩
 unfold insB insAtB
 repeat' split
 all_goals first
  | exact fun _ h => by cases h
  | exact set_wf h.2 (fun row hw => by
    rcases List.mem_append.1 hw with hw | hw
    ·exact at_wf h.2 row hw
    ·exact hr row hw)
theorem del_good {s : List S49} {d : Data} {nm : ByteArray} {gone : List Bool} (h : Good s d) (h0 : (delB s d nm gone).2 = 0) : Good s (delB s d nm gone).1 := by
 refine ⟨delB_keeps h.1 h0, ?_⟩
 unfold delB delAtB
 repeat' split
 all_goals first
  | exact fun _ h => by cases h
  | exact set_wf h.2 (fun row hw => at_wf h.2 row ((left_mem _ _).mem hw))
theorem eleven_at {w : World} {a b c d e f g h i j k : Value} {t : TypeId} {W : World} (hW : Below (w.alloc (Obj.cells #[a, b, c, d, e, f, g, h, i, j, k] t)).heap.size (w.alloc (Obj.cells #[a, b, c, d, e, f, g, h, i, j, k] t)) W) :
  W.cell? ⟨w.heap.size, 0, none⟩ = some a ∧ W.cell? ⟨w.heap.size, 3, none⟩ = some d ∧ W.cell? ⟨w.heap.size, 4, none⟩ = some e ∧ W.cell? ⟨w.heap.size, 5, none⟩ = some f ∧ W.cell? ⟨w.heap.size, 6, none⟩ = some g ∧ W.cell? ⟨w.heap.size, 7, none⟩ = some h ∧ W.cell? ⟨w.heap.size, 8, none⟩ = some i ∧ W.cell? ⟨w.heap.size, 10, none⟩ = some k := by
 have hb := Go.Deep.blk_alloc_new w (Obj.cells #[a, b, c, d, e, f, g, h, i, j, k] t)
 have hb2 := (hW.block w.heap.size (blk_lt hb)).trans hb
 exact ⟨(blk_cell hb2 0).trans rfl, (blk_cell hb2 3).trans rfl, (blk_cell hb2 4).trans rfl, (blk_cell hb2 5).trans rfl, (blk_cell hb2 6).trans rfl, (blk_cell hb2 7).trans rfl, (blk_cell hb2 8).trans rfl, (blk_cell hb2 10).trans rfl⟩
set_option maxHeartbeats 4000000 in
set_option maxRecDepth 100000 in
theorem act_walk (A0 : Option Addr) (c0 : Nat) (s : List S49) (A1 : Option Addr) (c1 : Nat) (d : Data) (K kd : Int) (Q : Option Addr) (qn qc : Nat) (nm cn : ByteArray) (A3 : Option Addr) (c3 : Nat) (defs : List S109) (A4 : Option Addr) (c4 : Nat) (keys : List (List ByteArray)) (A5 : Option Addr) (c5 : Nat) (refs : List S105) (A6 : Option Addr) (c6 : Nat) (rows : Rows) (H : Option Addr) (hn hc : Nat) (A7 : Option Addr) (c7 : Nat) (gone : List Bool) (w : World)
  (hK : 0 ≤ K ∧ K ≤ 255) (hg : Good s d) (hS : Kd.C k49 w A0 s.length s) (hc0 : s.length ≤ c0) (hD : Kd.C (Kd.slice 89 (Kd.slice 87 k64)) w A1 d.length d) (hc1 : d.length ≤ c1)
  (h3 : Kd.C k109 w A3 defs.length defs) (hc3 : defs.length ≤ c3) (h4 : Kd.C (Kd.slice 9 Kd.string) w A4 keys.length keys) (hc4 : keys.length ≤ c4) (h5 : Kd.C k105 w A5 refs.length refs) (hc5 : refs.length ≤ c5)
  (h6 : Kd.C (Kd.slice 87 k64) w A6 rows.length rows) (hc6 : rows.length ≤ c6) (h7 : Kd.C Kd.bool w A7 gone.length gone) (hc7 : gone.length ≤ c7) (hL : LaidL w)
  (hb3 : defs.length ≤ 2000000) (hz3 : ∀ x ∈ defs, x.f0.size ≤ 9223372036854775807) (hb4 : ∀ l ∈ keys, l.length ≤ 2000000)
  (hb5 : ∀ r ∈ refs, r.f0.length ≤ 2000000 ∧ r.f2.length ≤ 2000000 ∧ (∀ x ∈ r.f0, x.size ≤ 9223372036854775807) ∧ (∀ x ∈ r.f2, x.size ≤ 9223372036854775807)) (hb6 : rows.length ≤ 2000000) (hz6 : wfRows rows) :
  Calls Tryz.prog 27 #[.slice A0 s.length c0, .slice A1 d.length c1, .agg #[.int .u8 K, .int .u8 kd, .slice Q qn qc, .string nm, .string cn, .slice A3 defs.length c3, .slice A4 keys.length c4, .slice A5 refs.length c5, .slice A6 rows.length c6, .slice H hn hc, .slice A7 gone.length c7]] w fun e w' =>
   ∃ (s' : List S49) (d' : Data) (A : Option Addr) (c : Nat) (A' : Option Addr) (c' : Nat) (er : Int), e = .returned (.tuple #[.slice A s'.length c, .slice A' d'.length c', .int .i64 er]) ∧ Kd.C k49 w' A s'.length s' ∧ s'.length ≤ c ∧ Kd.C (Kd.slice 89 (Kd.slice 87 k64)) w' A' d'.length d' ∧ d'.length ≤ c' ∧ Good s' d' ∧ (er = 1 → K % 6 = 0) ∧ Below w.heap.size w w' := by
 obtain ⟨W0, hW0⟩ : ∃ W, W = w.alloc (Obj.cells #[.int .u8 K, .int .u8 kd, .slice Q qn qc, .string nm, .string cn, .slice A3 defs.length c3, .slice A4 keys.length c4, .slice A5 refs.length c5, .slice A6 rows.length c6, .slice H hn hc, .slice A7 gone.length c7] 61) := ⟨_, rfl⟩
 have HB0 : Aside0 (Below w.heap.size w W0) := ⟨by rw [hW0]; exact (Below.refl _ _).alloc (Nat.le_refl _) _⟩
 have HKC : Aside0 (∀ W, Below W0.heap.size W0 W → _) := ⟨fun W hW => by rw [hW0] at hW; exact eleven_at hW⟩
 obtain ⟨z0, z1, z2, z3, z4, z5, z6, z7⟩ := HKC.out _ (Below.refl _ _)
 obtain ⟨v1, v2, v3, v4, v5, v6, v7, v8, v9⟩ := good_facts hg
 have HG := Aside0.mk hg
 have HS := Aside0.mk (fun W (hW : Below w.heap.size w W) => Kd.C_below hS hW)
 have HD := Aside0.mk (fun W (hW : Below w.heap.size w W) => Kd.C_below hD hW)
 obtain ⟨k1, hk1⟩ := data_is s v2 d
 replace hk1 : dataP k1 s d = some true := by rw [← hg.1]; exact hk1 _ (Nat.le_refl _)
 obtain ⟨k2, hk2⟩ := drop_is s v2 d nm
 replace hk2 : dropP k2 s d nm = some (dropB s d nm) := hk2 _ (Nat.le_refl _)
 obtain ⟨k3, hk3⟩ := valid_is s v2
 replace hk3 : scheme_Valid.f k3 s = some true := by rw [← v1]; exact hk3 _ (Nat.le_refl _)
 obtain ⟨k4, hk4⟩ := insert_is s v2 d nm rows
 replace hk4 : insertP k4 s d nm rows = some (insB s d nm rows) := hk4 _ (Nat.le_refl _)
 obtain ⟨k5, hk5⟩ := delete_is s v2 d nm gone
 replace hk5 : deleteP k5 s d nm gone = some (delB s d nm gone) := hk5 _ (Nat.le_refl _)
 have hL0 := fun W (hW : Below w.heap.size w W) => LaidL.below ⟨hL⟩ hW
 have H18 := Aside0.mk (create_walk k1 A0 c0 s A1 c1 d nm A3 c3 defs A4 c4 keys A5 c5 refs true W0 (HS.out _ HB0.out) hc0 (HD.out _ HB0.out) hc1 (Kd.C_below h3 HB0.out) hc3 (Kd.C_below h4 HB0.out) hc4 (Kd.C_below h5 HB0.out) hc5 v3 hk1 (fun _ => ⟨v4, v5, v7⟩) (hL0 _ HB0.out) hb3 hz3 hb4 hb5)
 have H9 := Aside0.mk (drop_walk k2 A0 c0 s A1 c1 d nm (dropB s d nm).1 (dropB s d nm).2.1 (dropB s d nm).2.2 W0 (HS.out _ HB0.out) hc0 (HD.out _ HB0.out) hc1 v3 (fun _ => ⟨v4, v5, ref_lt v1⟩) (hL0 _ HB0.out) hk2)
 have H14 := Aside0.mk (add_walk k3 A0 c0 s nm cn true W0 (HS.out _ HB0.out) hc0 hk3 (fun _ => ⟨v5, v8⟩) (hL0 _ HB0.out))
 have H16 := Aside0.mk (rmv_walk k3 A0 c0 s nm cn true W0 (HS.out _ HB0.out) hc0 hk3 (fun _ => ⟨v5, v8⟩) (hL0 _ HB0.out))
 have H22 := Aside0.mk (insertS_walk k4 A0 c0 s A1 c1 d nm A6 c6 rows (insB s d nm rows).1 (insB s d nm rows).2 W0 (HS.out _ HB0.out) hc0 (HD.out _ HB0.out) hc1 (Kd.C_below h6 HB0.out) hc6 v3 hz6 (fun _ => v4) (by omega) (fun _ h0 he hl => by
  have hr := findP_range nm s 0
  obtain ⟨n, hn⟩ := Int.eq_ofNat_of_zero_le h0
  rw [hn] at he
  exact smallRows_of v1 (by omega) he hl) (hL0 _ HB0.out) hk4)
 have H24 := Aside0.mk (deleteS_walk k5 A0 c0 s A1 c1 d nm A7 c7 gone (delB s d nm gone).1 (delB s d nm gone).2 W0 (HS.out _ HB0.out) hc0 (HD.out _ HB0.out) hc1 (Kd.C_below h7 HB0.out) hc7 v3 (fun _ => v4) (hL0 _ HB0.out) hk5)
 have G18 := Aside0.mk (fun h0 => create_good (nm := nm) (defs := defs) (keys := keys) (refs := refs) hg h0)
 have G9 := Aside0.mk (fun h0 => drop_good (nm := nm) hg h0)
 have G14 : Aside0 ((addG true s nm cn).2 = 0 → Good (addG true s nm cn).1 d) := ⟨fun h0 => ⟨add_keeps hg.1 h0, hg.2⟩⟩
 have G16 : Aside0 ((rmvG true s nm cn).2 = 0 → Good (rmvG true s nm cn).1 d) := ⟨fun h0 => ⟨rmv_keeps hg.1 h0, hg.2⟩⟩
 have G22 := Aside0.mk (fun h0 => ins_good (nm := nm) hg hz6 h0)
 have G24 := Aside0.mk (fun h0 => del_good (nm := nm) (gone := gone) hg h0)
 have N9 := Aside0.mk (dropB_ne (nm := nm) hg.1)
 have N14 := Aside0.mk (addG_ne s nm cn)
 have N16 := Aside0.mk (rmvG_ne s nm cn)
 have N22 := Aside0.mk (insB_ne (nm := nm) (rows := rows) hg.1)
 have N24 := Aside0.mk (delB_ne (nm := nm) (gone := gone) hg.1)
 clear hS hD h3 h4 h5 h6 h7 hL hL0 hg hb3 hz3 hb4 hb5 hb6 hz6 hk1 hk2 hk3 hk4 hk5 v1 v2 v3 v4 v5 v6 v7 v8 v9
 generalize createP true s d nm defs keys refs = P18 at *
 generalize dropB s d nm = P9 at *
 generalize addG true s nm cn = P14 at *
 generalize rmvG true s nm cn = P16 at *
 generalize insB s d nm rows = P22 at *
 generalize delB s d nm gone = P24 at *
 obtain ⟨a18, b18, c18⟩ := P18
 obtain ⟨a9, b9, e9⟩ := P9
 obtain ⟨a14, c14⟩ := P14
 obtain ⟨a16, c16⟩ := P16
 obtain ⟨b22, c22⟩ := P22
 obtain ⟨b24, c24⟩ := P24
 simp only at H18 H9 H14 H16 H22 H24 G18 G9 G14 G16 G22 G24 N9 N14 N16 N22 N24
 have hcase : K % 6 = 0 ∨ K % 6 = 1 ∨ K % 6 = 2 ∨ K % 6 = 3 ∨ K % 6 = 4 ∨ K % 6 = 5 := by omega
 go_enter Tryz.func27, Tryz.ntmps27
 go_upto_region 1 with fail
 rw [← hW0]
 clear hW0
 go_upto_region 4 with fail
 rcases hcase with hk | hk | hk | hk | hk | hk
 ·rw [hk]
  clear HKC
  by_cases q : c18 = 0
  ·subst q
   go_wp2_with (go_at_call 18; refine H18.out.mono ?_; rintro e w1 ⟨v7, v8, rfl, hv7, hv8, hb1⟩; obtain ⟨A7, c7, e7⟩ := Kd.R_slice hv7; obtain ⟨A8, c8, e8⟩ := Kd.R_slice hv8; subst e7 e8; have HC7 := Aside0.mk (Kd.R_reads' hv7); have HC8 := Aside0.mk (Kd.R_reads' hv8); have HB1 := Aside0.mk (below_step HB0.out hb1); clear hv7 hv8 hb1)
   go_ret3
   exact ⟨a18, b18, A7, c7, A8, c8, 0, rfl, HC7.out.2.2, HC7.out.2.1, HC8.out.2.2, HC8.out.2.1, G18.out trivial, fun _ => hk, HB1.out⟩
  ·have d1 : (c18 == 0) = false := beq_eq_false_iff_ne.mpr q
   have d2 : (c18 != 0) = true := by rw [bne, d1]; rfl
   go_wp2_with (go_at_call 18; refine H18.out.mono ?_; rintro e w1 ⟨v7, v8, rfl, hv7, hv8, hb1⟩; obtain ⟨A7, c7, e7⟩ := Kd.R_slice hv7; obtain ⟨A8, c8, e8⟩ := Kd.R_slice hv8; subst e7 e8; have HC7 := Aside0.mk (Kd.R_reads' hv7); have HC8 := Aside0.mk (Kd.R_reads' hv8); have HB1 := Aside0.mk (below_step HB0.out hb1); clear hv7 hv8 hb1)
   go_ret3
   exact ⟨s, d, A0, c0, A1, c1, c18, rfl, HS.out _ HB1.out, hc0, HD.out _ HB1.out, hc1, HG.out, fun _ => hk, HB1.out⟩
 ·rw [hk]
  clear HKC
  by_cases q : e9 = 0
  ·subst q
   go_wp2_with (go_at_call 9; refine H9.out.mono ?_; rintro e w1 ⟨v7, v8, N, rfl, hv7, hv8, hb1⟩; obtain ⟨A7, c7, e7, hl7, hC7⟩ := Kd.S_reads hv7; obtain ⟨A8, c8, e8, hl8, hC8⟩ := Kd.S_reads hv8; subst e7 e8; have HC7 := Aside0.mk hC7; have HC8 := Aside0.mk hC8; have HB1 := Aside0.mk (below_step HB0.out hb1); clear hv7 hv8 hb1 hC7 hC8)
   go_ret3
   exact ⟨a9, b9, A7, c7, A8, c8, 0, rfl, HC7.out, hl7, HC8.out, hl8, G9.out trivial, fun h => absurd h (by decide), HB1.out⟩
  ·have d1 : (e9 == 0) = false := beq_eq_false_iff_ne.mpr q
   have d2 : (e9 != 0) = true := by rw [bne, d1]; rfl
   go_wp2_with (go_at_call 9; refine H9.out.mono ?_; rintro e w1 ⟨v7, v8, N, rfl, hv7, hv8, hb1⟩; obtain ⟨A7, c7, e7, hl7, hC7⟩ := Kd.S_reads hv7; obtain ⟨A8, c8, e8, hl8, hC8⟩ := Kd.S_reads hv8; subst e7 e8; have HC7 := Aside0.mk hC7; have HC8 := Aside0.mk hC8; have HB1 := Aside0.mk (below_step HB0.out hb1); clear hv7 hv8 hb1 hC7 hC8)
   go_ret3
   exact ⟨s, d, A0, c0, A1, c1, e9, rfl, HS.out _ HB1.out, hc0, HD.out _ HB1.out, hc1, HG.out, fun h => absurd h N9.out, HB1.out⟩
 ·rw [hk]
  clear HKC
  by_cases q : c14 = 0
  ·subst q
   go_wp2_with (go_at_call 14; refine H14.out.mono ?_; rintro e w1 ⟨v7, rfl, hv7, hb1⟩; obtain ⟨A7, c7, e7, hl7, hC7⟩ := Kd.S_reads (S_a hv7); subst e7; have HC7 := Aside0.mk hC7; have HB1 := Aside0.mk (below_step HB0.out hb1); clear hv7 hb1 hC7)
   go_ret3
   exact ⟨a14, d, A7, c7, A1, c1, 0, rfl, HC7.out, hl7, HD.out _ HB1.out, hc1, G14.out trivial, fun h => absurd h (by decide), HB1.out⟩
  ·have d1 : (c14 == 0) = false := beq_eq_false_iff_ne.mpr q
   have d2 : (c14 != 0) = true := by rw [bne, d1]; rfl
   go_wp2_with (go_at_call 14; refine H14.out.mono ?_; rintro e w1 ⟨v7, rfl, hv7, hb1⟩; obtain ⟨A7, c7, e7, hl7, hC7⟩ := Kd.S_reads (S_a hv7); subst e7; have HC7 := Aside0.mk hC7; have HB1 := Aside0.mk (below_step HB0.out hb1); clear hv7 hb1 hC7)
   go_ret3
   exact ⟨s, d, A0, c0, A1, c1, c14, rfl, HS.out _ HB1.out, hc0, HD.out _ HB1.out, hc1, HG.out, fun h => absurd h N14.out, HB1.out⟩
 ·rw [hk]
  clear HKC
  by_cases q : c16 = 0
  ·subst q
   go_wp2_with (go_at_call 16; refine H16.out.mono ?_; rintro e w1 ⟨v7, rfl, hv7, hb1⟩; obtain ⟨A7, c7, e7, hl7, hC7⟩ := Kd.S_reads (S_a hv7); subst e7; have HC7 := Aside0.mk hC7; have HB1 := Aside0.mk (below_step HB0.out hb1); clear hv7 hb1 hC7)
   go_ret3
   exact ⟨a16, d, A7, c7, A1, c1, 0, rfl, HC7.out, hl7, HD.out _ HB1.out, hc1, G16.out trivial, fun h => absurd h (by decide), HB1.out⟩
  ·have d1 : (c16 == 0) = false := beq_eq_false_iff_ne.mpr q
   have d2 : (c16 != 0) = true := by rw [bne, d1]; rfl
   go_wp2_with (go_at_call 16; refine H16.out.mono ?_; rintro e w1 ⟨v7, rfl, hv7, hb1⟩; obtain ⟨A7, c7, e7, hl7, hC7⟩ := Kd.S_reads (S_a hv7); subst e7; have HC7 := Aside0.mk hC7; have HB1 := Aside0.mk (below_step HB0.out hb1); clear hv7 hb1 hC7)
   go_ret3
   exact ⟨s, d, A0, c0, A1, c1, c16, rfl, HS.out _ HB1.out, hc0, HD.out _ HB1.out, hc1, HG.out, fun h => absurd h N16.out, HB1.out⟩
 ·rw [hk]
  clear HKC
  by_cases q : c22 = 0
  ·subst q
   go_wp2_with (go_at_call 22; refine H22.out.mono ?_; rintro e w1 ⟨v7, rfl, hv7, hb1⟩; obtain ⟨A7, c7, e7, hl7, hC7⟩ := Kd.S_reads hv7; subst e7; have HC7 := Aside0.mk hC7; have HB1 := Aside0.mk (below_step HB0.out hb1); clear hv7 hb1 hC7)
   go_ret3
   exact ⟨s, b22, A0, c0, A7, c7, 0, rfl, HS.out _ HB1.out, hc0, HC7.out, hl7, G22.out trivial, fun h => absurd h (by decide), HB1.out⟩
  ·have d1 : (c22 == 0) = false := beq_eq_false_iff_ne.mpr q
   have d2 : (c22 != 0) = true := by rw [bne, d1]; rfl
   go_wp2_with (go_at_call 22; refine H22.out.mono ?_; rintro e w1 ⟨v7, rfl, hv7, hb1⟩; obtain ⟨A7, c7, e7, hl7, hC7⟩ := Kd.S_reads hv7; subst e7; have HC7 := Aside0.mk hC7; have HB1 := Aside0.mk (below_step HB0.out hb1); clear hv7 hb1 hC7)
   go_ret3
   exact ⟨s, d, A0, c0, A1, c1, c22, rfl, HS.out _ HB1.out, hc0, HD.out _ HB1.out, hc1, HG.out, fun h => absurd h N22.out, HB1.out⟩
 ·rw [hk]
  clear HKC
  by_cases q : c24 = 0
  ·subst q
   go_wp2_with (go_at_call 24; refine H24.out.mono ?_; rintro e w1 ⟨v7, rfl, hv7, hb1⟩; obtain ⟨A7, c7, e7, hl7, hC7⟩ := Kd.S_reads hv7; subst e7; have HC7 := Aside0.mk hC7; have HB1 := Aside0.mk (below_step HB0.out hb1); clear hv7 hb1 hC7)
   go_ret3
   exact ⟨s, b24, A0, c0, A7, c7, 0, rfl, HS.out _ HB1.out, hc0, HC7.out, hl7, G24.out trivial, fun h => absurd h (by decide), HB1.out⟩
  ·have d1 : (c24 == 0) = false := beq_eq_false_iff_ne.mpr q
   have d2 : (c24 != 0) = true := by rw [bne, d1]; rfl
   go_wp2_with (go_at_call 24; refine H24.out.mono ?_; rintro e w1 ⟨v7, rfl, hv7, hb1⟩; obtain ⟨A7, c7, e7, hl7, hC7⟩ := Kd.S_reads hv7; subst e7; have HC7 := Aside0.mk hC7; have HB1 := Aside0.mk (below_step HB0.out hb1); clear hv7 hb1 hC7)
   go_ret3
   exact ⟨s, d, A0, c0, A1, c1, c24, rfl, HS.out _ HB1.out, hc0, HD.out _ HB1.out, hc1, HG.out, fun h => absurd h N24.out, HB1.out⟩
end Go.Proofs.YthgfdnffnbclpaaGreatDoor.PAll
