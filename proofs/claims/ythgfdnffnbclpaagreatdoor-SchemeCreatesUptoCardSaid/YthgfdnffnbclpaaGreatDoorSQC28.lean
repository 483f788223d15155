import Derived.Test.YthgfdnffnbclpaaGreatDoorSQC16
import Derived.Test.YthgfdnffnbclpaaGreatDoorSQC13
import Derived.Test.YthgfdnffnbclpaaGreatDoorSQC06
import Derived.Test.YthgfdnffnbclpaaGreatDoorSQC17
import Derived.Test.YthgfdnffnbclpaaGreatDoorSQC15
set_option linter.unusedVariables false
set_option linter.unusedSimpArgs false
namespace Go.Proofs.YthgfdnffnbclpaaGreatDoor.PAll
open Go.RowKit Go.Proofs.YthgfdnffnbclpaaGreatDoorW.PrintWords Go.Proofs.YthgfdnffnbclpaaGreatDoorW.PrintLast Go.Proofs.YthgfdnffnbclpaaGreatDoorW.PrintMore
theorem zil {b : List S49} {t : S49} (h : tabB b t = true) : t.f2.length ≤ 4 ∧ t.f3.length ≤ 4 ∧ risB t.f4 (t.f1.length : Int) = true := by
 unfold tabB at h
 split at h
 ·split at h
  ·cases h
  split at h
  ·cases h
  split at h
  ·cases h
  simp only [Bool.and_eq_true] at h
  exact ⟨by omega, by omega, h.1⟩
 ·cases h
theorem zin {s : List S49} {n : Nat} (hv : zbr s = true) (hn : n < s.length) {r : S75} (hr : r ∈ s[n].f3) : 0 ≤ r.f1 ∧ r.f1 < (n : Int) ∧ r.f0.length ≤ 8 := by
 have hat := (validB_at hv).2
 have h1 := hat n hn
 rw [zdK hn] at h1
 have hb := (zaZ h1).2.2 r hr
 have hlen : (s.take n).length = n := by rw [List.length_take]; omega
 unfold refB at hb
 rw [hlen] at hb
 split at hb
 ·cases hb
 split at hb
 ·cases hb
 split at hb
 ·cases hb
 split at hb
 ·cases hb
 split at hb
 ·rename_i q0 q1 q2 q3 q4
  refine ⟨by omega, by omega, ?_⟩
  obtain ⟨j, hj⟩ : ∃ j : Nat, r.f1 = (j : Int) := ⟨r.f1.toNat, by omega⟩
  rw [hj] at q1 q3 q4
  have hjn : j < n := by omega
  have e : rd_T49 (s.take n) (j : Int) = s[j] := by
   unfold rd_T49
   rw [Int.toNat_natCast, List.getD_eq_getElem?_getD, List.getElem?_take, if_pos hjn, List.getElem?_eq_getElem (by omega)]
   rfl
  rw [e] at q3 q4
  have h2 := hat j (by omega)
  rw [zdK (by omega : j < s.length)] at h2
  obtain ⟨k1, k2, _⟩ := zaZ h2
  have hm : rd_L6 s[j].f2 r.f2 ∈ s[j].f2 := by
   unfold rd_L6
   have hl : r.f2.toNat < s[j].f2.length := by omega
   rw [List.getD_eq_getElem?_getD, List.getElem?_eq_getElem hl]
   exact List.getElem_mem hl
  have := zcN (k2 _ hm) (by omega)
  omega
 ·cases hb
theorem smallS_of {s : List S49} (hv : zbr s = true) : zbw s := by
 obtain ⟨h16, hat⟩ := validB_at hv
 refine ⟨by omega, fun t ht => ?_⟩
 obtain ⟨n, hn, rfl⟩ := List.getElem_of_mem ht
 have h1 := hat n hn
 rw [zdK hn] at h1
 obtain ⟨a1, a2, a3⟩ := zaZ h1
 obtain ⟨b1, b2, b3⟩ := zil h1
 refine ⟨by omega, ⟨by omega, fun key hk => ?_⟩, ⟨by omega, fun r hr => ?_⟩, ?_⟩
 ·have := zcN (a2 key hk) (by omega); omega
 ·have := (zin hv hn hr).2.2; omega
 ·have := zcN b3 (by omega); omega
end Go.Proofs.YthgfdnffnbclpaaGreatDoor.PAll
