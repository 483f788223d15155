import Derived.Test.YthgfdnffnbclpaaGreatDoorXR17
import Derived.Test.YthgfdnffnbclpaaGreatDoorXR14
import Derived.Test.YthgfdnffnbclpaaGreatDoorXR10
import Derived.Test.YthgfdnffnbclpaaGreatDoorXR15
import Derived.Test.YthgfdnffnbclpaaGreatDoorXR16
import Derived.Test.YthgfdnffnbclpaaGreatDoorXR18
set_option linter.unusedVariables false
set_option linter.unusedSimpArgs false
namespace Go.Proofs.YthgfdnffnbclpaaGreatDoor.PAll
open Go.RowKit Go.Proofs.YthgfdnffnbclpaaGreatDoorW.PrintWords Go.Proofs.YthgfdnffnbclpaaGreatDoorW.PrintLast Go.Proofs.YthgfdnffnbclpaaGreatDoorW.PrintMore

/-- A reference of table m: where it lies, and the row with another in its place. -/
theorem S_ref {W : World} {base : Nat} {ok : Nat → Prop} {g n cap : Nat} {s : List S49} (h : Kd.S k49 72 W base ok (.slice (some ⟨g, 0, none⟩) n cap) s) (m i : Nat) (t : S49) (hm : s[m]? = some t) (r : S75) (hi : t.f3[i]? = some r) :
    ∃ gr cr, W.cell? ⟨g, m * 5 + 3, none⟩ = some (.slice (some ⟨gr, 0, none⟩) t.f3.length cr) ∧ W.cell? ⟨gr, i * 3 + 1, none⟩ = some (.int .i64 r.f1) ∧ W.frozen? ⟨gr, i * 3 + 1, none⟩ = false ∧ base ≤ gr ∧ gr < W.heap.size ∧
      ∀ u : Int, Kd.S k49 72 (W.setCell ⟨gr, i * 3 + 1, none⟩ (.int .i64 u)) base ok (.slice (some ⟨g, 0, none⟩) n cap) (s.set m (setR t i ⟨r.f0, u, r.f2⟩)) := by
  have hml := (List.getElem?_eq_some_iff.1 hm).1
  have hil := (List.getElem?_eq_some_iff.1 hi).1
  have hn := (Kd.S_reads' h).1
  obtain ⟨oki, c, hcl, hM, hcc, hoki, hH⟩ := Kd.S_lend h z49 (m : Int) (by omega) (by omega)
  rw [Int.toNat_natCast, List.getD_eq_getElem?_getD, hm] at hM
  obtain ⟨v1, v2, v3, v4, rfl, g1, g2, g3, g4⟩ := k49_openM (x := t) hM
  obtain ⟨gr, cr, rfl, hb1, hb2, cells, hgc⟩ := Kd.R_form g3 (by omega)
  obtain ⟨cc, hccl, hccM, hce⟩ := Kd.R_getA g3 z75 (i : Int) (by omega) (by omega)
  rw [Int.toNat_natCast, List.getD_eq_getElem?_getD, hi] at hccM
  obtain ⟨v0, rfl, gi⟩ := k75_openM (x := r) hccM
  have h0 := hcc 3 _ rfl
  have h1 := hce 1 _ rfl
  rw [add_plain, Int.toNat_natCast] at h1
  refine ⟨gr, cr, by rw [Int.toNat_natCast] at h0; exact h0, h1, blk_frozen hgc _, hb1, hb2, fun u => ?_⟩
  obtain ⟨s1, s2⟩ := Kd.R_seg g3 (i : Int) (by omega) (by omega) (c := [v0, .int .i64 r.f1, .int .i64 r.f2]) (seg := [.int .i64 u]) (j := 1) rfl (fun j q hj => by have := hce j q hj; rwa [add_plain] at this) (by show 1 + 1 ≤ 3; omega) (x' := ⟨r.f0, u, r.f2⟩)
    (okp := fun k => oki k ∧ k ≠ gr) (k75_mkM W base _ ⟨r.f0, u, r.f2⟩ (Kd.R_mono gi (fun k hk => ⟨hk.1, fun he => hk.2 (by rw [he]; simp [Value.ownBlock])⟩))) (fun k hk => hk)
  rw [Int.toNat_natCast] at s1 s2
  have hM2 := k49_mkM (W.setCell ⟨gr, i * 3 + 1, none⟩ (.int .i64 u)) base oki (setR t i ⟨r.f0, u, r.f2⟩) (Kd.R_set g1 hgc (by decide) _ _) (Kd.R_set g2 hgc (by decide) _ _) (v3 := .slice (some ⟨gr, 0, none⟩) t.f3.length cr) s1 (Kd.R_set g4 hgc (by decide) _ _)
  have := Kd.H_back (Kd.H_grown hH s2 (fun k hk => by obtain rfl := Option.some.inj hk; exact g3.1 gr (by simp [Value.ownBlock]))) hM2 (fun k hk => hk)
  rwa [Int.toNat_natCast] at this
theorem S_refs {W : World} {base : Nat} {ok : Nat → Prop} {g n cap : Nat} {s : List S49} (h : Kd.S k49 72 W base ok (.slice (some ⟨g, 0, none⟩) n cap) s) (m : Nat) (t : S49) (hm : s[m]? = some t) :
    ∃ A c, W.cell? ⟨g, m * 5 + 3, none⟩ = some (.slice A t.f3.length c) := by
  have hml := (List.getElem?_eq_some_iff.1 hm).1
  have hn := (Kd.S_reads' h).1
  obtain ⟨oki, c, hcl, hM, hcc, hoki, hH⟩ := Kd.S_lend h z49 (m : Int) (by omega) (by omega)
  rw [Int.toNat_natCast, List.getD_eq_getElem?_getD, hm] at hM
  obtain ⟨v1, v2, v3, v4, rfl, g1, g2, g3, g4⟩ := k49_openM (x := t) hM
  obtain ⟨A, cr, rfl⟩ := Kd.R_slice g3
  have h0 := hcc 3 _ rfl
  exact ⟨A, cr, by rw [Int.toNat_natCast] at h0; exact h0⟩
theorem dropAt_use {s : List S49} {d : Data} {n : Nat} {r0 : List S49} {r1 : Data} {r2 : Int} (h : dropAt s d n = (r0, r1, r2)) (hu : s.any (useT n) = true) : r0 = [] ∧ r1 = [] ∧ r2 = 73 := by
  unfold dropAt at h
  rw [if_pos hu] at h
  cases h
  exact ⟨rfl, rfl, rfl⟩
theorem dropAt_free {s : List S49} {d : Data} {n : Nat} {r0 : List S49} {r1 : Data} {r2 : Int} (h : dropAt s d n = (r0, r1, r2)) (hu : ∀ t ∈ s, useT n t = false) : r0 = (s.map (shT n)).eraseIdx n ∧ r1 = d.eraseIdx n ∧ r2 = 0 := by
  unfold dropAt at h
  rw [if_neg (by rw [List.any_eq_true]; rintro ⟨t, ht, h2⟩; rw [hu t ht] at h2; cases h2)] at h
  cases h
  exact ⟨rfl, rfl, rfl⟩
theorem use_free {g : Int} {t : S49} (h : ∀ r ∈ t.f3, (r.f1 == g) = false) : useT g t = false := by
  unfold useT
  rw [List.any_eq_false]
  intro r hr; rw [h r hr]; decide

set_option maxHeartbeats 4000000 in
set_option maxRecDepth 100000 in
theorem drop_walk (k : Nat) (A0 : Option Addr) (c0 : Nat) (s : List S49) (A1 : Option Addr) (c1 : Nat) (d : Data) (nm : ByteArray) (r0 : List S49) (r1 : Data) (r2 : Int) (w : World)
    (hS : Kd.C k49 w A0 s.length s) (hc0 : s.length ≤ c0) (hD : Kd.C (Kd.slice 89 (Kd.slice 87 k64)) w A1 d.length d) (hc1 : d.length ≤ c1)
    (hwd : wfData d) (hsd : dataP k s d = some true → smallData d ∧ smallSch s ∧ ∀ t ∈ s, ∀ r ∈ t.f3, r.f1 < s.length) (hL : LaidL w) (h : dropP k s d nm = some (r0, r1, r2)) :
    Calls Tryz.prog 9 #[.slice A0 s.length c0, .slice A1 d.length c1, .string nm] w fun e w' => ∃ (v0 v1 : Value) (N : Nat), e = .returned (.tuple #[v0, v1, .int .i64 r2]) ∧ Kd.S k49 72 w' w.heap.size (fun q => q < N) v0 r0 ∧ Kd.S (Kd.slice 89 (Kd.slice 87 k64)) 41 w' w.heap.size (fun q => N ≤ q) v1 r1 ∧ Below w.heap.size w w' := by
  have HS := Aside0.mk hS
  have HD := Aside0.mk hD
  have HSD := Aside0.mk hsd
  unfold dropP at h
  obtain ⟨v, hv, hz⟩ := Option.bind_eq_some_iff.mp h
  have HV := Aside0.mk (validData_walk k A0 c0 s A1 c1 d v w hS hc0 hD hc1 hwd hL hv)
  have HF : Aside0 (∀ W, Below w.heap.size w W → Calls Tryz.prog 33 #[.slice A0 s.length c0, .string nm] W fun e w' => e = .returned (.int .i64 (findP nm 0 s)) ∧ Below W.heap.size W w') := ⟨fun W hW => scheme_find.calls A0 c0 s nm _ W (Kd.C_below hS hW) hc0 rfl⟩
  have HH := Aside0.mk hz
  have HVD := Aside0.mk hv
  clear hS hD hwd hsd hL h hv hz
  go_enter Tryz.func9, Tryz.ntmps9
  cases v with
  | false =>
    have h := HH.out
    rw [if_neg (by decide)] at h
    cases h
    go_wp2_with (go_at_call 29; refine HV.out.mono ?_; rintro e w1 ⟨rfl, hb1⟩)
    go_ret3
    exact ⟨_, _, 0, rfl, Kd.S_nil _ _ _ _ _, Kd.S_nil _ _ _ _ _, hb1⟩
  | true =>
    have h := HH.out
    rw [if_pos rfl] at h
    have HLEN := Aside0.mk (dataP_len HVD.out)
    have HSD2 := Aside0.mk (HSD.out HVD.out)
    have hrange := findP_range nm s 0
    generalize findP nm 0 s = n at *
    by_cases q : n < 0
    · rw [if_pos q] at h
      cases h
      have d1 : decide (n < 0) = true := decide_eq_true q
      clear q hrange HH
      go_wp2_with (first | (go_at_call 29; refine HV.out.mono ?_; rintro e w1 ⟨rfl, hb1⟩) | (go_at_call 33; refine (HF.out _ hb1).mono ?_; rintro e w2 ⟨rfl, hb2⟩))
      go_ret3
      exact ⟨_, _, 0, rfl, Kd.S_nil _ _ _ _ _, Kd.S_nil _ _ _ _ _, below_step hb1 hb2⟩
    rw [if_neg q] at h
    have d1 : decide (n < 0) = false := decide_eq_false q
    obtain ⟨gone, rfl⟩ : ∃ m : Nat, n = (m : Int) := ⟨n.toNat, by omega⟩
    rw [Int.toNat_natCast] at h
    have hns : gone < s.length := by omega
    have hnd : gone < d.length := by have := HLEN.out; omega
    have HP := Aside0.mk (Option.some.inj h)
    clear q hrange HH h
    have HCS : Aside0 (∀ W, Below w.heap.size w W → Calls Tryz.prog 34 #[.slice A0 s.length c0] W fun e w' => ∃ v0_ : Value, e = .returned (v0_) ∧ Kd.S k49 72 w' W.heap.size (fun _ => True) v0_ s ∧ Below W.heap.size W w') := ⟨fun W hW => copied_walk A0 c0 s W (Kd.C_below HS.out hW) hc0 HSD2.out.2.1⟩
    have HDP : Aside0 (0 < s.length) := ⟨by omega⟩
    have hslen : s.length ≤ 2000000 := HSD2.out.2.1.1
    go_wp2_with (first | (go_at_call 29; refine HV.out.mono ?_; rintro e w1 ⟨rfl, hb1⟩) | (go_at_call 33; refine (HF.out _ hb1).mono ?_; rintro e w2 ⟨rfl, hb2⟩) | (go_at_call 34; refine (HCS.out _ (below_step hb1 hb2)).mono ?_; rintro e W1 ⟨v, rfl, ho, hb3⟩; obtain ⟨g, cap, ev, hg1, hg2, gcells, hgc⟩ := Kd.S_form ho HDP.out; subst ev))
    have HB := Aside0.mk (below_step (below_step hb1 hb2) hb3)
    have HW2 : Aside0 (w.heap.size ≤ w2.heap.size) := ⟨(below_step hb1 hb2).size⟩
    have HO : Aside0 (Kd.S k49 72 W1 w.heap.size (fun _ => True) (.slice (some ⟨g, 0, none⟩) s.length cap) (curS gone s 0 0)) := ⟨by rw [curS_zero]; exact Kd.S_lower ho HW2.out⟩
    clear hb1 hb2 hb3 ho hg1 hg2 hgc HV HF HCS d1
    go_loopg [27] s.length (fun gk v27 wx => ∃ (m : Nat), m + gk = s.length ∧ v27 = .int .i64 m ∧ Aside0 (Kd.S k49 72 wx w.heap.size (fun _ => True) (.slice (some ⟨g, 0, none⟩) s.length cap) (curS gone s m 0)) ∧ Aside0 (Below w.heap.size w wx) ∧ Aside0 (∀ t ∈ s.take m, useT gone t = false))
    case atStart => exact ⟨0, by omega, rfl, HO, HB, ⟨fun t ht => by simp at ht⟩⟩
    case round =>
      clear HO HB
      obtain ⟨m, hm, rfl, HO, HB, HU⟩ := hrel
      cases gk with
      | succ gk =>
        have hlt : m < s.length := by omega
        have hmi : (m : Int) < (s.length : Int) := by omega
        have hm0 : (0 : Int) ≤ (m : Int) := by omega
        obtain ⟨Ar, cr, hx3⟩ := S_refs HO.out m (shP gone 0 s[m]) (curS_at _ _ _ _ hlt)
        rw [shP_zero] at hx3
        have hfl := (HSD2.out.2.1.2 s[m] (List.getElem_mem hlt)).2.2.1.1
        have HOi : Aside0 (Kd.S k49 72 wr w.heap.size (fun _ => True) (.slice (some ⟨g, 0, none⟩) s.length cap) (curS gone s m 0)) := HO
        have HR1 := Aside0.mk (HSD2.out.2.2 s[m] (List.getElem_mem hlt))
        go_wp2
        clear hx3 HO
        go_loopg [36] s[m].f3.length (fun gi v36 wx => ∃ (i : Nat), i + gi = s[m].f3.length ∧ v36 = .int .i64 i ∧ Aside0 (Kd.S k49 72 wx w.heap.size (fun _ => True) (.slice (some ⟨g, 0, none⟩) s.length cap) (curS gone s m i)) ∧ Aside0 (Below w.heap.size w wx) ∧ Aside0 (∀ r ∈ s[m].f3.take i, (r.f1 == (gone : Int)) = false))
        case atStart => exact ⟨0, by omega, rfl, HOi, HB, ⟨fun t ht => by simp at ht⟩⟩
        case round =>
          clear HOi HB
          obtain ⟨i, hi, rfl, HO, HB, HV⟩ := hrel
          cases gk with
          | zero =>
            have hii : ¬ (i : Int) < (s[m].f3.length : Int) := by omega
            have HO2 : Aside0 (Kd.S k49 72 wr w.heap.size (fun _ => True) (.slice (some ⟨g, 0, none⟩) s.length cap) (curS gone s (m + 1) 0)) := ⟨by rw [← curS_next _ _ _ i hlt (by omega)]; exact HO.out⟩
            have HU2 : Aside0 (∀ t ∈ s.take (m + 1), useT gone t = false) := ⟨fun t ht => by
              rw [take_snoc hlt] at ht
              rcases List.mem_append.1 ht with ht | ht
              · exact HU.out t ht
              · rw [List.mem_singleton.1 ht]
                exact use_free (fun r hr => HV.out r (by rw [List.take_of_length_le (by omega)]; exact hr))⟩
            clear HO HV
            go_wp2
            go_roundg gk
            case measure => omega
            case rel => exact ⟨m + 1, by omega, by first | rfl | (simp; done) | (simp; unfold wrap64; omega), HO2, HB, HU2⟩
          | succ gi =>
            have hil : i < s[m].f3.length := by omega
            have hii : (i : Int) < (s[m].f3.length : Int) := by omega
            have hi0 : (0 : Int) ≤ (i : Int) := by omega
            obtain ⟨gr, cr2, hx3, hy, hyf, hgr1, hgr2, hst⟩ := S_ref HO.out m i (shP gone i s[m]) (curS_at _ _ _ _ hlt) s[m].f3[i] (shP_at _ _ _ hil)
            have hfl2 : (shP gone i s[m]).f3.length = s[m].f3.length := by simp [shP]
            rw [hfl2] at hx3
            have HST := Aside0.mk hst
            have HCS := curS_step gone s m i hlt hil
            have HCE := curS_same gone s m i hlt hil
            have HUA := use_at (g := (gone : Int)) hlt hil
            have HTK := take_snoc hil
            have hRlt := HR1.out s[m].f3[i] (List.getElem_mem hil)
            have HHCS := Aside0.mk HCS
            have HHCE := Aside0.mk HCE
            have HHUA := Aside0.mk HUA
            have HHTK := Aside0.mk HTK
            clear hst HCS HCE HUA HTK hfl2
            generalize s[m].f3[i] = r at *
            by_cases q1 : r.f1 = (gone : Int)
            · obtain ⟨e0, e1, e2⟩ := dropAt_use HP.out (HHUA.out q1)
              subst e0 e1 e2
              have d1 : (r.f1 == (gone : Int)) = true := beq_iff_eq.mpr q1
              clear q1
              go_wp2
              go_ret3
              exact ⟨_, _, 0, rfl, Kd.S_nil _ _ _ _ _, Kd.S_nil _ _ _ _ _, HB.out⟩
            · have d1 : (r.f1 == (gone : Int)) = false := beq_eq_false_iff_ne.mpr q1
              have HV2 : Aside0 (∀ r ∈ s[m].f3.take (i + 1), (r.f1 == (gone : Int)) = false) := ⟨fun x hx => by
                rw [HHTK.out] at hx
                rcases List.mem_append.1 hx with hx | hx
                · exact HV.out x hx
                · rw [List.mem_singleton.1 hx]; exact d1⟩
              by_cases q2 : (gone : Int) < r.f1
              · have d2 : decide ((gone : Int) < r.f1) = true := decide_eq_true q2
                have hsh : shR gone r = ⟨r.f0, r.f1 - 1, r.f2⟩ := by unfold shR; rw [if_pos q2]
                have HO2 : Aside0 (Kd.S k49 72 (wr.setCell ⟨gr, i * 3 + 1, none⟩ (.int .i64 (r.f1 - 1))) w.heap.size (fun _ => True) (.slice (some ⟨g, 0, none⟩) s.length cap) (curS gone s m (i + 1))) := ⟨by
                  have := HST.out (r.f1 - 1)
                  rw [← HHCS.out, hsh]
                  exact this⟩
                have HB2 : Aside0 (Below w.heap.size w (wr.setCell ⟨gr, i * 3 + 1, none⟩ (.int .i64 (r.f1 - 1)))) := ⟨below_set HB.out hgr1⟩
                have hr1 : r.f1 ≤ 2000000 := by omega
                have hr0 : 1 ≤ r.f1 := by omega
                clear q1 hsh HHCS HHCE HHUA HHTK HST HV HO HB
                go_wp2
                go_roundg gi
                case measure => omega
                case rel => exact ⟨i + 1, by omega, by first | rfl | (simp; done) | (simp; unfold wrap64; omega), HO2, HB2, HV2⟩
              · have d2 : decide ((gone : Int) < r.f1) = false := decide_eq_false q2
                have HO2 : Aside0 (Kd.S k49 72 wr w.heap.size (fun _ => True) (.slice (some ⟨g, 0, none⟩) s.length cap) (curS gone s m (i + 1))) := ⟨by
                  rw [HHCE.out (by unfold shR; rw [if_neg q2])]
                  exact HO.out⟩
                clear q1 HHCS HHCE HHUA HHTK HST HV HO
                go_wp2
                go_roundg gi
                case measure => omega
                case rel => exact ⟨i + 1, by omega, by first | rfl | (simp; done) | (simp; unfold wrap64; omega), HO2, HB, HV2⟩
      | zero =>
        have hmi : ¬ (m : Int) < (s.length : Int) := by omega
        have hus : ∀ t ∈ s, useT gone t = false := fun t ht => HU.out t (by rw [List.take_of_length_le (by omega)]; exact ht)
        obtain ⟨e0, e1, e2⟩ := dropAt_free HP.out hus
        subst e0 e1 e2
        have ho := HO.out
        rw [curS_all _ _ _ _ (by omega)] at ho
        have HN1 := Aside0.mk (delTab_walk g s.length cap gone w.heap.size (fun _ => True) _ wr ho hns)
        have HCD : Aside0 (∀ W, Below w.heap.size w W → Calls Tryz.prog 37 #[.slice A1 d.length c1] W fun e w' => ∃ v0_ : Value, e = .returned (v0_) ∧ Kd.S (Kd.slice 89 (Kd.slice 87 k64)) 41 w' W.heap.size (fun _ => True) v0_ d ∧ Below W.heap.size W w') := ⟨fun W hW => copiedData_walk A1 c1 d W (Kd.C_below HD.out hW) hc1 HSD2.out.1⟩
        have HDD : Aside0 (0 < d.length) := ⟨by omega⟩
        have hgl : Aside0 (w.heap.size ≤ g ∧ g < wr.heap.size) := ⟨Kd.S_base ho g (by simp [Value.ownBlock]), Kd.S_lt ho g (by simp [Value.ownBlock])⟩
        clear hus ho HO HU HP HVD HSD HSD2
        go_wp2_with (first
          | (go_at_call 35; refine HN1.out.mono ?_; rintro e w3 ⟨rfl, hs3, hg3⟩; have HB3 := Aside0.mk (HB.out.grown hg3 HB.out.size (fun j hj => by obtain rfl := Option.some.inj hj; exact hgl.out.1)); have HS3 := Aside0.mk hs3; clear hs3)
          | (go_at_call 37; refine (HCD.out _ HB3.out).mono ?_; rintro e w4 ⟨v4, rfl, hv4, hb4⟩; obtain ⟨gd, capd, ev, hgd1, hgd2, gdc, hgdc⟩ := Kd.S_form hv4 HDD.out; subst ev; have HN2 := Aside0.mk (delDat_walk gd d.length capd gone w3.heap.size (fun _ => True) d w4 hv4 hnd); have HS4 := Aside0.mk (Kd.S_below (Kd.S_bound HS3.out) hb4); have HB4 := Aside0.mk (below_step HB3.out hb4); have HL4 := Aside0.mk hgd1; have HL43 := Aside0.mk hb4.size; clear hb4 hgd2 hgdc hgd1)
          | (go_at_call 36; refine HN2.out.mono ?_; rintro e w5 ⟨rfl, hs5, hg5⟩; have HS5 := Aside0.mk hs5; have HG5 := Aside0.mk hg5; clear hs5 hg5))
        go_ret3
        refine ⟨_, _, w3.heap.size, rfl, Kd.S_grown (Kd.S_mono HS4.out (fun k hk => hk.2.2.1)) HG5.out (fun k hk he => ?_), Kd.S_lower (Kd.S_mono (Kd.S_bound HS5.out) (fun k hk => hk.2.1)) HB3.out.size, HB4.out.grown HG5.out HB4.out.size (fun k hk => ?_)⟩
        · have h1 : k < w3.heap.size := hk
          have h2 := HL4.out
          injection he with he
          omega
        · obtain rfl := Option.some.inj hk
          exact Nat.le_trans HB3.out.size HL4.out
end Go.Proofs.YthgfdnffnbclpaaGreatDoor.PAll
namespace Go.Proofs.YthgfdnffnbclpaaGreatDoor.PAll
open Go.RowKit Go.Proofs.YthgfdnffnbclpaaGreatDoorW.PrintWords Go.Proofs.YthgfdnffnbclpaaGreatDoorW.PrintLast Go.Proofs.YthgfdnffnbclpaaGreatDoorW.PrintMore

theorem refFindG_range (nm : ByteArray) : ∀ (l : List S49) (i : Nat) (n : Int), refFindG nm i l = (n, true) → (i : Int) ≤ n ∧ n < (i + l.length : Nat)
  | [], i, n, h => by rw [refFindG] at h; cases h
  | t :: l, i, n, h => by
    rw [refFindG] at h
    split at h
    · cases h; simp; omega
    · have := refFindG_range nm l (i + 1) n h
      simp at this ⊢; omega
theorem refFindP_range {s : List S49} {nm : ByteArray} {n : Int} (h : refFindP s nm = some (n, true)) : 0 ≤ n ∧ n < (s.length : Int) := by
  unfold refFindP at h
  obtain ⟨v, _, h⟩ := Option.bind_eq_some_iff.mp h
  split at h
  · have := refFindG_range nm s 0 n (Option.some.inj h)
    simp at this; omega
  · cases h
theorem refDataP_len {s : List S49} {d : Data} (h : refDataP s d = some true) : d.length = s.length := by
  unfold refDataP at h
  obtain ⟨v, _, h⟩ := Option.bind_eq_some_iff.mp h
  split at h
  · split at h
    · assumption
    · cases h
  · cases h

end Go.Proofs.YthgfdnffnbclpaaGreatDoor.PAll
namespace Go.Proofs.YthgfdnffnbclpaaGreatDoor.PAll
open Go.RowKit Go.Proofs.YthgfdnffnbclpaaGreatDoorW.PrintWords Go.Proofs.YthgfdnffnbclpaaGreatDoorW.PrintLast Go.Proofs.YthgfdnffnbclpaaGreatDoorW.PrintMore

def refDropP (s : List S49) (d : Data) (nm : ByteArray) : Option (List S49 × Data × Int) :=
  (refDataP s d).bind fun v => if v = true then (refFindP s nm).bind fun p => if p.2 = true then some (dropAt s d p.1.toNat) else some ([], [], 71) else some ([], [], 1)
theorem erase_keep {α : Type} (l : List α) (x : α) (n : Nat) (h : n ≠ l.length) : (l ++ [x]).eraseIdx n = l.eraseIdx n ++ [x] := by
  by_cases q : n < l.length
  · exact List.eraseIdx_append_of_lt_length q _
  · rw [List.eraseIdx_of_length_le (by simp; omega), List.eraseIdx_of_length_le (by omega)]
theorem erase_skip {α : Type} (l : List α) (x : α) : (l ++ [x]).eraseIdx l.length = l.eraseIdx l.length := by
  rw [List.eraseIdx_append_of_length_le (Nat.le_refl _), List.eraseIdx_of_length_le (Nat.le_refl _), Nat.sub_self]
  simp
/-- The tables (the rows) so far, without number g. -/
def tabsTo (g : Nat) (s : List S49) (m : Nat) : List S49 := ((s.take m).map (shT g)).eraseIdx g
def rowsTo (g : Nat) (d : List (List (List S64))) (m : Nat) : List (List (List S64)) := (d.take m).eraseIdx g
theorem tabsTo_skip (g : Nat) (s : List S49) (h : g < s.length) : tabsTo g s (g + 1) = tabsTo g s g := by
  unfold tabsTo
  have hl : ((s.take g).map (shT (g : Int))).length = g := by rw [List.length_map, List.length_take]; omega
  have := erase_skip ((s.take g).map (shT (g : Int))) (shT g s[g])
  rw [hl] at this
  rw [take_snoc h, List.map_append]
  exact this
theorem rowsTo_skip (g : Nat) (d : List (List (List S64))) (h : g < d.length) : rowsTo g d (g + 1) = rowsTo g d g := by
  unfold rowsTo
  have hl : (d.take g).length = g := by rw [List.length_take]; omega
  have := erase_skip (d.take g) d[g]
  rw [hl] at this
  rw [take_snoc h]
  exact this
theorem tabsTo_keep (g : Nat) (s : List S49) (m : Nat) (h : m < s.length) (hne : m ≠ g) : tabsTo g s (m + 1) = tabsTo g s m ++ [shT g s[m]] := by
  unfold tabsTo
  rw [take_snoc h, List.map_append]
  exact erase_keep _ _ _ (by rw [List.length_map, List.length_take]; omega)
theorem rowsTo_keep (g : Nat) (d : List (List (List S64))) (m : Nat) (h : m < d.length) (hne : m ≠ g) : rowsTo g d (m + 1) = rowsTo g d m ++ [d[m]] := by
  unfold rowsTo
  rw [take_snoc h]
  exact erase_keep _ _ _ (by rw [List.length_take]; omega)
theorem tabsTo_len (g : Nat) (s : List S49) (m : Nat) : (tabsTo g s m).length ≤ s.length := by
  unfold tabsTo
  exact Nat.le_trans (List.length_eraseIdx_le _ _) (by rw [List.length_map, List.length_take]; omega)
theorem rowsTo_len (g : Nat) (d : List (List (List S64))) (m : Nat) : (rowsTo g d m).length ≤ d.length := by
  unfold rowsTo
  exact Nat.le_trans (List.length_eraseIdx_le _ _) (by rw [List.length_take]; omega)
theorem M_slices {W : World} {base : Nat} {ok : Nat → Prop} {t : S49} {v1 v2 v3 v4 : Value} (h : k49.M W base ok t [.string t.f0, v1, v2, v3, v4]) : ∃ A1 c1 A2 c2 A3 c3 A4 c4, v1 = .slice A1 t.f1.length c1 ∧ v2 = .slice A2 t.f2.length c2 ∧ v3 = .slice A3 t.f3.length c3 ∧ v4 = .slice A4 t.f4.length c4 := by
  obtain ⟨w1, w2, w3, w4, e, g1, g2, g3, g4⟩ := k49_openM (x := t) h
  simp only [List.cons.injEq, true_and, and_true] at e
  obtain ⟨rfl, rfl, rfl, rfl⟩ := e
  obtain ⟨A1, c1, e1⟩ := Kd.R_slice g1
  obtain ⟨A2, c2, e2⟩ := Kd.R_slice g2
  obtain ⟨A3, c3, e3⟩ := Kd.R_slice g3
  obtain ⟨A4, c4, e4⟩ := Kd.R_slice g4
  exact ⟨A1, c1, A2, c2, A3, c3, A4, c4, e1, e2, e3, e4⟩
theorem M_ref {W : World} {base : Nat} {ok : Nat → Prop} {t : S49} {v1 v2 v3 v4 : Value} (h : k49.M W base ok t [.string t.f0, v1, v2, v3, v4]) (i : Nat) (r : S75) (hi : t.f3[i]? = some r) :
    ∃ gr cr, v3 = .slice (some ⟨gr, 0, none⟩) t.f3.length cr ∧ ok gr ∧ W.cell? ⟨gr, i * 3 + 1, none⟩ = some (.int .i64 r.f1) ∧ W.frozen? ⟨gr, i * 3 + 1, none⟩ = false ∧ base ≤ gr ∧ gr < W.heap.size ∧
      ∀ u : Int, k49.M (W.setCell ⟨gr, i * 3 + 1, none⟩ (.int .i64 u)) base ok (setR t i ⟨r.f0, u, r.f2⟩) [.string t.f0, v1, v2, v3, v4] := by
  have hil := (List.getElem?_eq_some_iff.1 hi).1
  obtain ⟨w1, w2, w3, w4, e, g1, g2, g3, g4⟩ := k49_openM (x := t) h
  simp only [List.cons.injEq, true_and, and_true] at e
  obtain ⟨rfl, rfl, rfl, rfl⟩ := e
  obtain ⟨gr, cr, rfl, hb1, hb2, cells, hgc⟩ := Kd.R_form g3 (by omega)
  obtain ⟨cc, hccl, hccM, hce⟩ := Kd.R_getA g3 z75 (i : Int) (by omega) (by omega)
  rw [Int.toNat_natCast, List.getD_eq_getElem?_getD, hi] at hccM
  obtain ⟨v0, rfl, gi⟩ := k75_openM (x := r) hccM
  have h1 := hce 1 _ rfl
  rw [add_plain, Int.toNat_natCast] at h1
  refine ⟨gr, cr, rfl, g3.1 gr (by simp [Value.ownBlock]), h1, blk_frozen hgc _, hb1, hb2, fun u => ?_⟩
  obtain ⟨s1, s2⟩ := Kd.R_seg g3 (i : Int) (by omega) (by omega) (c := [v0, .int .i64 r.f1, .int .i64 r.f2]) (seg := [.int .i64 u]) (j := 1) rfl (fun j q hj => by have := hce j q hj; rwa [add_plain] at this) (by show 1 + 1 ≤ 3; omega) (x' := ⟨r.f0, u, r.f2⟩)
    (okp := fun k => ok k ∧ k ≠ gr) (k75_mkM W base _ ⟨r.f0, u, r.f2⟩ (Kd.R_mono gi (fun k hk => ⟨hk.1, fun he => hk.2 (by rw [he]; simp [Value.ownBlock])⟩))) (fun k hk => hk)
  rw [Int.toNat_natCast] at s1 s2
  exact k49_mkM (W.setCell ⟨gr, i * 3 + 1, none⟩ (.int .i64 u)) base ok (setR t i ⟨r.f0, u, r.f2⟩) (Kd.R_set g1 hgc (by decide) _ _) (Kd.R_set g2 hgc (by decide) _ _) (v3 := .slice (some ⟨gr, 0, none⟩) t.f3.length cr) s1 (Kd.R_set g4 hgc (by decide) _ _)

set_option maxHeartbeats 4000000 in
set_option maxRecDepth 100000 in
theorem refDrop_walk (A0 : Option Addr) (c0 : Nat) (s : List S49) (A1 : Option Addr) (c1 : Nat) (d : Data) (nm : ByteArray) (r0 : List S49) (r1 : Data) (r2 : Int) (w : World)
    (hS : Kd.C k49 w A0 s.length s) (hc0 : s.length ≤ c0) (hD : Kd.C (Kd.slice 89 (Kd.slice 87 k64)) w A1 d.length d) (hc1 : d.length ≤ c1)
    (hwd : wfData d) (hsd : refDataP s d = some true → smallData d ∧ smallSch s ∧ (∀ t ∈ s, ∀ r ∈ t.f3, r.f1 < s.length) ∧ ∀ n (h : n < s.length), useT n s[n] = false) (h : refDropP s d nm = some (r0, r1, r2)) :
    Calls Tryz.prog 8 #[.slice A0 s.length c0, .slice A1 d.length c1, .string nm] w fun e w' => ∃ v0 v1 : Value, e = .returned (.tuple #[v0, v1, .int .i64 r2]) ∧ Kd.S k49 72 w' w.heap.size (fun _ => True) v0 r0 ∧ Kd.S (Kd.slice 89 (Kd.slice 87 k64)) 41 w' w.heap.size (fun _ => True) v1 r1 ∧ Below w.heap.size w w' := by
  have HS := Aside0.mk hS
  have HD := Aside0.mk hD
  have HSD := Aside0.mk hsd
  have hslen := hS.2.1
  unfold refDropP at h
  obtain ⟨v, hv, hz⟩ := Option.bind_eq_some_iff.mp h
  have HV := Aside0.mk (refData_walk A0 c0 s A1 c1 d v w hS hc0 hD hc1 hwd hv)
  have HVD := Aside0.mk hv
  clear hv h
  go_enter Tryz.func8, Tryz.ntmps8
  cases v with
  | false =>
    rw [if_neg (by decide)] at hz
    cases hz
    clear hS hD hwd hsd
    go_wp2_with (go_at_call 30; refine HV.out.mono ?_; rintro e w1 ⟨rfl, hb1⟩)
    go_ret3
    exact ⟨_, _, rfl, Kd.S_nil _ _ _ _ _, Kd.S_nil _ _ _ _ _, hb1⟩
  | true =>
  rw [if_pos rfl] at hz
  obtain ⟨⟨ni, is⟩, hf, hz2⟩ := Option.bind_eq_some_iff.mp hz
  have HF : Aside0 (∀ W, Below w.heap.size w W → Calls Tryz.prog 31 #[.slice A0 s.length c0, .string nm] W fun e w' => e = .returned (.tuple #[.int .i64 ni, .bool is]) ∧ Below W.heap.size W w') := ⟨fun W hW => refFind_walk A0 c0 s nm ni is W (Kd.C_below hS hW) hc0 hf⟩
  have hlen := refDataP_len HVD.out
  have HSD2 := Aside0.mk (HSD.out HVD.out)
  cases is with
  | false =>
    rw [if_neg (by simp)] at hz2
    cases hz2
    clear hS hD hwd hsd hf hlen hz
    go_wp2_with (first | (go_at_call 30; refine HV.out.mono ?_; rintro e w1 ⟨rfl, hb1⟩) | (go_at_call 31; refine (HF.out _ hb1).mono ?_; rintro e w2 ⟨rfl, hb2⟩))
    go_ret3
    exact ⟨_, _, rfl, Kd.S_nil _ _ _ _ _, Kd.S_nil _ _ _ _ _, below_step hb1 hb2⟩
  | true =>
  rw [if_pos rfl] at hz2
  have hrange := refFindP_range hf
  obtain ⟨gone, rfl⟩ : ∃ n : Nat, ni = (n : Int) := ⟨ni.toNat, by omega⟩
  rw [show ((gone : Int), true).1.toNat = gone by simp] at hz2
  have hns : gone < s.length := by omega
  have hnd : gone < d.length := by omega
  have HP := Aside0.mk (Option.some.inj hz2)
  have HDL := Aside0.mk hlen
  have HNO := Aside0.mk (HSD2.out.2.2.2 gone hns)
  have hs2 : s.length ≤ 2000000 := HSD2.out.2.1.1
  have HD2 : Aside0 (d.length ≤ 2000000) := ⟨by omega⟩
  clear hS hD hwd hsd hf hrange hz hz2 hlen HSD hslen
  go_wp2_with (first | (go_at_call 30; refine HV.out.mono ?_; rintro e w1 ⟨rfl, hb1⟩) | (go_at_call 31; refine (HF.out _ hb1).mono ?_; rintro e w2 ⟨rfl, hb2⟩))
  have HB := Aside0.mk (below_step hb1 hb2)
  have HT0 : Aside0 (Kd.S k49 72 w2 w.heap.size (fun _ => True) (.slice none 0 0) (tabsTo gone s 0)) := ⟨by simpa [tabsTo] using Kd.S_nil _ _ _ _ _⟩
  have HF0 : Aside0 (Kd.S (Kd.slice 89 (Kd.slice 87 k64)) 41 w2 w.heap.size (fun _ => True) (.slice none 0 0) (rowsTo gone d 0)) := ⟨by simpa [rowsTo] using Kd.S_nil _ _ _ _ _⟩
  clear hb1 hb2 HV HF
  go_loopg [11, 12, 13] s.length (fun gk v11 v12 v13 wx => ∃ (m : Nat), m + gk = s.length ∧ v13 = .int .i64 m ∧ Aside0 (Kd.S k49 72 wx w.heap.size (fun _ => True) v11 (tabsTo gone s m)) ∧ Aside0 (Kd.S (Kd.slice 89 (Kd.slice 87 k64)) 41 wx w.heap.size (fun _ => True) v12 (rowsTo gone d m)) ∧ Aside0 (Below w.heap.size w wx) ∧ Aside0 (∀ t ∈ s.take m, useT gone t = false))
  case atStart => exact ⟨0, by omega, rfl, HT0, HF0, HB, ⟨fun t ht => by simp at ht⟩⟩
  case round =>
    clear HT0 HF0 HB
    obtain ⟨m, hm, rfl, HT, HR, HB, HU⟩ := hrel
    cases gk with
    | zero =>
      have hmi : ¬ (m : Int) < (s.length : Int) := by omega
      have hus : ∀ t ∈ s, useT gone t = false := fun t ht => HU.out t (by rw [List.take_of_length_le (by omega)]; exact ht)
      obtain ⟨e0, e1, e2⟩ := dropAt_free HP.out hus
      subst e0 e1 e2
      have ht := HT.out
      have hr := HR.out
      unfold tabsTo at ht
      unfold rowsTo at hr
      rw [List.take_of_length_le (by omega)] at ht
      rw [List.take_of_length_le (by have := HDL.out; omega)] at hr
      have HT2 := Aside0.mk ht
      have HR2 := Aside0.mk hr
      clear ht hr hus HT HR HU HP
      go_wp2
      go_ret3
      exact ⟨_, _, rfl, HT2.out, HR2.out, HB.out⟩
    | succ gk =>
      have hlt : m < s.length := by omega
      have hmi : (m : Int) < (s.length : Int) := by omega
      have hm0 : (0 : Int) ≤ (m : Int) := by omega
      have hmd : m < d.length := by have := HDL.out; omega
      by_cases q : m = gone
      · subst q
        have d1 : ((m : Int) == (m : Int)) = true := beq_iff_eq.mpr rfl
        have HT2 : Aside0 (Kd.S k49 72 wr w.heap.size (fun _ => True) u11 (tabsTo m s (m + 1))) := ⟨by rw [tabsTo_skip _ _ hlt]; exact HT.out⟩
        have HR2 : Aside0 (Kd.S (Kd.slice 89 (Kd.slice 87 k64)) 41 wr w.heap.size (fun _ => True) u12 (rowsTo m d (m + 1))) := ⟨by rw [rowsTo_skip _ _ hmd]; exact HR.out⟩
        have HU2 : Aside0 (∀ t ∈ s.take (m + 1), useT m t = false) := ⟨fun t ht => by
          rw [take_snoc hlt] at ht
          rcases List.mem_append.1 ht with ht | ht
          · exact HU.out t ht
          · rw [List.mem_singleton.1 ht]; exact HNO.out⟩
        clear HT HR HU
        go_wp2
        go_roundg gk
        case measure => omega
        case rel => exact ⟨m + 1, by omega, by first | rfl | (simp; done) | (simp; unfold wrap64; omega), HT2, HR2, HB, HU2⟩
      · have d1 : ((m : Int) == (gone : Int)) = false := beq_eq_false_iff_ne.mpr (by omega)
        have HKT := Aside0.mk (tabsTo_keep gone s m hlt q)
        have HKR := Aside0.mk (rowsTo_keep gone d m hmd q)
        clear q
        obtain ⟨aa, P1, p1, P2, p2, P3, p3, P4, p4, haa, z0, z1, z2, z3, z4, m1, C1, m2, C2, m3, C3, m4, C4⟩ := at_T49 HS.out (m : Int) hm0 hmi
        subst haa
        have hrd : rd_T49 s (m : Int) = s[m] := by unfold rd_T49; simp [List.getD, hlt]
        rw [hrd] at z0 z1 z2 z3 z4 m1 C1 m2 C2 m3 C3 m4 C4
        rw [Int.toNat_natCast] at z0 z1 z2 z3 z4
        replace z0 := (HB.out.cell (World.block_lt_of_cell? w _ z0)).trans z0
        replace z1 := (HB.out.cell (World.block_lt_of_cell? w _ z1)).trans z1
        replace z2 := (HB.out.cell (World.block_lt_of_cell? w _ z2)).trans z2
        replace z3 := (HB.out.cell (World.block_lt_of_cell? w _ z3)).trans z3
        replace z4 := (HB.out.cell (World.block_lt_of_cell? w _ z4)).trans z4
        have HN := Aside0.mk (copyTable_walk s[m] P1 p1 P2 p2 P3 p3 P4 p4 wr (Kd.C_below C1 HB.out) m1 (Kd.C_below C2 HB.out) m2 (Kd.C_below C3 HB.out) m3 (Kd.C_below C4 HB.out) m4 (HSD2.out.2.1.2 _ (List.getElem_mem hlt)))
        have HR1 := Aside0.mk (HSD2.out.2.2.1 s[m] (List.getElem_mem hlt))
        have hfl := (HSD2.out.2.1.2 s[m] (List.getElem_mem hlt)).2.2.1.1
        have HUA := Aside0.mk (fun (i : Nat) (hi : i < s[m].f3.length) => use_at (g := (gone : Int)) hlt hi)
        have HUT : Aside0 ((∀ r ∈ s[m].f3, (r.f1 == (gone : Int)) = false) → ∀ t ∈ s.take (m + 1), useT gone t = false) := ⟨fun hh t ht => by
          rw [take_snoc hlt] at ht
          rcases List.mem_append.1 ht with ht | ht
          · exact HU.out t ht
          · rw [List.mem_singleton.1 ht]; exact use_free hh⟩
        clear C1 C2 C3 C4 hrd HU
        generalize s[m] = x at *
        go_upto_region 13 with (go_at_call 32; refine HN.out.mono ?_; rintro e w3 ⟨v1, v2, v3, v4, rfl, hM3, hb3⟩; obtain ⟨A5, c5, A6, c6, A7, c7, A8, c8, e5, e6, e7, e8⟩ := M_slices hM3; subst e5 e6 e7 e8)
        obtain ⟨G, hG⟩ : ∃ G, G = w3.heap.size := ⟨_, rfl⟩
        obtain ⟨N, hN⟩ : ∃ N, N = wr.heap.size := ⟨_, rfl⟩
        obtain ⟨Wa, hWa⟩ : ∃ W, W = w3.alloc (Obj.cells #[Value.string x.f0, Value.slice A5 x.f1.length c5, Value.slice A6 x.f2.length c6, Value.slice A7 x.f3.length c7, Value.slice A8 x.f4.length c8] 72) := ⟨_, rfl⟩
        have bG : Wa.heap[G]? = some (.cells #[Value.string x.f0, Value.slice A5 x.f1.length c5, Value.slice A6 x.f2.length c6, Value.slice A7 x.f3.length c7, Value.slice A8 x.f4.length c8] 72 (0, 0)) := by rw [hWa, hG]; exact Go.Deep.blk_alloc_new w3 _
        have hb3a : Below wr.heap.size wr Wa := by rw [hWa]; exact below_step hb3 ((Below.refl _ _).alloc (Nat.le_refl _) _)
        have hMa : k49.M Wa w.heap.size (fun k => N ≤ k ∧ k < G) x [Value.string x.f0, Value.slice A5 x.f1.length c5, Value.slice A6 x.f2.length c6, Value.slice A7 x.f3.length c7, Value.slice A8 x.f4.length c8] := by rw [hWa]; exact Kd.M_below (k49.M_lower HB.out.size (k49.M_mono (fun k hk => ⟨by rw [hN]; exact hk.2.1, by rw [hG]; exact hk.2.2.1⟩) (k49.M_bound hM3))) ((Below.refl _ _).alloc (Nat.le_refl _) _)
        have HTa : Aside0 (Kd.S k49 72 Wa w.heap.size (fun k => k < N) u11 (tabsTo gone s m)) := ⟨by rw [hN]; exact Kd.S_mono (Kd.S_old HT.out hb3a) (fun k hk => hk.2)⟩
        have HRa : Aside0 (Kd.S (Kd.slice 89 (Kd.slice 87 k64)) 41 Wa w.heap.size (fun k => k < N) u12 (rowsTo gone d m)) := ⟨by rw [hN]; exact Kd.S_mono (Kd.S_old HR.out hb3a) (fun k hk => hk.2)⟩
        have hNG : N ≤ G := by rw [hN, hG]; exact hb3.size
        have hwN : w.heap.size ≤ N := by rw [hN]; exact HB.out.size
        have HBa := Aside0.mk (below_step HB.out hb3a)
        rw [← hWa, ← hG]
        clear hWa hG hN hb3 hb3a hM3 HT HR HB z0 z1 z2 z3 z4 HN
        have HMa : Aside0 (k49.M Wa w.heap.size (fun k => N ≤ k ∧ k < G) (shP gone 0 x) [Value.string x.f0, Value.slice A5 x.f1.length c5, Value.slice A6 x.f2.length c6, Value.slice A7 x.f3.length c7, Value.slice A8 x.f4.length c8]) := ⟨by rw [shP_zero]; exact hMa⟩
        have HGa := Aside0.mk bG
        clear bG hMa
        have hx3 : Wa.cell? ⟨G, 3, none⟩ = some (Value.slice A7 x.f3.length c7) := (blk_cell HGa.out 3).trans rfl
        go_wp2
        clear hx3
        go_loopg [15] x.f3.length (fun gi v15 wx => ∃ (i : Nat), i + gi = x.f3.length ∧ v15 = .int .i64 i ∧ Aside0 (wx.heap[G]? = some (.cells #[Value.string x.f0, Value.slice A5 x.f1.length c5, Value.slice A6 x.f2.length c6, Value.slice A7 x.f3.length c7, Value.slice A8 x.f4.length c8] 72 (0, 0))) ∧ Aside0 (k49.M wx w.heap.size (fun k => N ≤ k ∧ k < G) (shP gone i x) [Value.string x.f0, Value.slice A5 x.f1.length c5, Value.slice A6 x.f2.length c6, Value.slice A7 x.f3.length c7, Value.slice A8 x.f4.length c8])
          ∧ Aside0 (Kd.S k49 72 wx w.heap.size (fun k => k < N) u11 (tabsTo gone s m)) ∧ Aside0 (Kd.S (Kd.slice 89 (Kd.slice 87 k64)) 41 wx w.heap.size (fun k => k < N) u12 (rowsTo gone d m)) ∧ Aside0 (Below w.heap.size w wx) ∧ Aside0 (∀ r ∈ x.f3.take i, (r.f1 == (gone : Int)) = false))
        case atStart => exact ⟨0, by omega, rfl, HGa, HMa, HTa, HRa, HBa, ⟨fun t ht => by simp at ht⟩⟩
        case round =>
          clear HGa HMa HTa HRa HBa
          obtain ⟨i, hi, rfl, HG, HM, HT, HR, HB, HV⟩ := hrel
          cases gk with
          | succ gi =>
            have hil : i < x.f3.length := by omega
            have hii : (i : Int) < (x.f3.length : Int) := by omega
            have hi0 : (0 : Int) ≤ (i : Int) := by omega
            obtain ⟨gr, cr, e7, hokg, hy, hyf, hgr1, hgr2, hst⟩ := M_ref HM.out i x.f3[i] (shP_at _ _ _ hil)
            have hfl2 : (shP gone i x).f3.length = x.f3.length := by simp [shP]
            rw [hfl2] at e7
            simp only [Value.slice.injEq, true_and] at e7
            obtain ⟨eA, eC⟩ := e7
            subst eA
            subst eC
            have hx3 : wr.cell? ⟨G, 3, none⟩ = some (Value.slice (some ⟨gr, 0, none⟩) x.f3.length c7) := (blk_cell HG.out 3).trans rfl
            have HST := Aside0.mk hst
            have HHCS := Aside0.mk (shP_step gone i x hil)
            have HHCE := Aside0.mk (shP_same gone i x hil)
            have HHUA := Aside0.mk (HUA.out i hil)
            have HHTK := Aside0.mk (take_snoc hil)
            have hRlt := HR1.out x.f3[i] (List.getElem_mem hil)
            clear hst hfl2
            generalize x.f3[i] = r at *
            by_cases q1 : r.f1 = (gone : Int)
            · obtain ⟨e0, e1, e2⟩ := dropAt_use HP.out (HHUA.out q1)
              subst e0 e1 e2
              have d2 : (r.f1 == (gone : Int)) = true := beq_iff_eq.mpr q1
              clear q1
              go_wp2
              go_ret3
              exact ⟨_, _, rfl, Kd.S_nil _ _ _ _ _, Kd.S_nil _ _ _ _ _, HB.out⟩
            · have d2 : (r.f1 == (gone : Int)) = false := beq_eq_false_iff_ne.mpr q1
              have HV2 : Aside0 (∀ r ∈ x.f3.take (i + 1), (r.f1 == (gone : Int)) = false) := ⟨fun y hy => by
                rw [HHTK.out] at hy
                rcases List.mem_append.1 hy with hy | hy
                · exact HV.out y hy
                · rw [List.mem_singleton.1 hy]; exact d2⟩
              by_cases q2 : (gone : Int) < r.f1
              · have d3 : decide ((gone : Int) < r.f1) = true := decide_eq_true q2
                have hsh : shR gone r = ⟨r.f0, r.f1 - 1, r.f2⟩ := by unfold shR; rw [if_pos q2]
                have HM2 : Aside0 (k49.M (wr.setCell ⟨gr, i * 3 + 1, none⟩ (.int .i64 (r.f1 - 1))) w.heap.size (fun k => N ≤ k ∧ k < G) (shP gone (i + 1) x) [Value.string x.f0, Value.slice A5 x.f1.length c5, Value.slice A6 x.f2.length c6, Value.slice (some ⟨gr, 0, none⟩) x.f3.length c7, Value.slice A8 x.f4.length c8]) := ⟨by
                  have := HST.out (r.f1 - 1)
                  rw [← HHCS.out, hsh]
                  exact this⟩
                have HB2 : Aside0 (Below w.heap.size w (wr.setCell ⟨gr, i * 3 + 1, none⟩ (.int .i64 (r.f1 - 1)))) := ⟨below_set HB.out hgr1⟩
                have HG2 : Aside0 ((wr.setCell ⟨gr, i * 3 + 1, none⟩ (.int .i64 (r.f1 - 1))).heap[G]? = some (.cells #[Value.string x.f0, Value.slice A5 x.f1.length c5, Value.slice A6 x.f2.length c6, Value.slice (some ⟨gr, 0, none⟩) x.f3.length c7, Value.slice A8 x.f4.length c8] 72 (0, 0))) := ⟨(Below.heap_setCell _ _ _ _ (by show G ≠ gr; omega)).trans HG.out⟩
                have HT2 : Aside0 (Kd.S k49 72 (wr.setCell ⟨gr, i * 3 + 1, none⟩ (.int .i64 (r.f1 - 1))) w.heap.size (fun k => k < N) u11 (tabsTo gone s m)) := ⟨Kd.S_far HT.out (fun k hk => by show k ≠ gr; omega) _⟩
                have HR2 : Aside0 (Kd.S (Kd.slice 89 (Kd.slice 87 k64)) 41 (wr.setCell ⟨gr, i * 3 + 1, none⟩ (.int .i64 (r.f1 - 1))) w.heap.size (fun k => k < N) u12 (rowsTo gone d m)) := ⟨Kd.S_far HR.out (fun k hk => by show k ≠ gr; omega) _⟩
                have hr1 : r.f1 ≤ 2000000 := by omega
                have hr0 : 1 ≤ r.f1 := by omega
                clear q1 hsh HHCS HHCE HHUA HHTK HST HV HM HB HG HT HR
                go_wp2
                go_roundg gi
                case measure => omega
                case rel => exact ⟨i + 1, by omega, by first | rfl | (simp; done) | (simp; unfold wrap64; omega), HG2, HM2, HT2, HR2, HB2, HV2⟩
              · have d3 : decide ((gone : Int) < r.f1) = false := decide_eq_false q2
                have HM2 : Aside0 (k49.M wr w.heap.size (fun k => N ≤ k ∧ k < G) (shP gone (i + 1) x) [Value.string x.f0, Value.slice A5 x.f1.length c5, Value.slice A6 x.f2.length c6, Value.slice (some ⟨gr, 0, none⟩) x.f3.length c7, Value.slice A8 x.f4.length c8]) := ⟨by
                  rw [HHCE.out (by unfold shR; rw [if_neg q2])]
                  exact HM.out⟩
                clear q1 HHCS HHCE HHUA HHTK HST HV HM
                go_wp2
                go_roundg gi
                case measure => omega
                case rel => exact ⟨i + 1, by omega, by first | rfl | (simp; done) | (simp; unfold wrap64; omega), HG, HM2, HT, HR, HB, HV2⟩
          | zero =>
            have hii : ¬ (i : Int) < (x.f3.length : Int) := by omega
            have HU2 := Aside0.mk (HUT.out (fun r hr => HV.out r (by rw [List.take_of_length_le (by omega)]; exact hr)))
            have hM := HM.out
            rw [shP_all _ _ _ (by omega : x.f3.length ≤ i)] at hM
            have HM2 : Aside0 (k49.M wr w.heap.size (fun k => N ≤ k ∧ k < G) (shT gone x) [Value.string x.f0, Value.slice A5 x.f1.length c5, Value.slice A6 x.f2.length c6, Value.slice A7 x.f3.length c7, Value.slice A8 x.f4.length c8]) := ⟨hM⟩
            have y0 : wr.cell? ⟨G, 0, none⟩ = some (Value.string x.f0) := (blk_cell HG.out 0).trans rfl
            have y1 : wr.cell? ⟨G, 1, none⟩ = some (Value.slice A5 x.f1.length c5) := (blk_cell HG.out 1).trans rfl
            have y2 : wr.cell? ⟨G, 2, none⟩ = some (Value.slice A6 x.f2.length c6) := (blk_cell HG.out 2).trans rfl
            have y3 : wr.cell? ⟨G, 3, none⟩ = some (Value.slice A7 x.f3.length c7) := (blk_cell HG.out 3).trans rfl
            have y4 : wr.cell? ⟨G, 4, none⟩ = some (Value.slice A8 x.f4.length c8) := (blk_cell HG.out 4).trans rfl
            obtain ⟨ad, Ar, cr, hAd, hx, hcr, hCr⟩ := at_L13 HD.out (m : Int) hm0 (by omega)
            subst hAd
            rw [rdL13 hmd] at hx hcr hCr
            rw [Int.toNat_natCast] at hx
            have hsr := HSD2.out.1.2 d[m] (List.getElem_mem hmd)
            have HTL : Aside0 ((tabsTo gone s m).length ≤ 2000000) := ⟨Nat.le_trans (tabsTo_len _ _ _) hs2⟩
            have HRL : Aside0 ((rowsTo gone d m).length ≤ 2000000) := ⟨Nat.le_trans (rowsTo_len _ _ _) HD2.out⟩
            generalize d[m] = rows at *
            generalize tabsTo gone s m = tabs at *
            generalize rowsTo gone d m = rws at *
            have HX : Aside0 (∀ W, Below w.heap.size w W → W.cell? (ad.add m) = some (.slice Ar rows.length cr)) := ⟨fun W hB => (hB.cell (World.block_lt_of_cell? w _ hx)).trans hx⟩
            have HCR : Aside0 (∀ W, Below w.heap.size w W → Calls Tryz.prog 21 #[.slice Ar rows.length cr] W fun e w' => ∃ v0_ : Value, e = .returned (v0_) ∧ Kd.S (Kd.slice 87 k64) 89 w' W.heap.size (fun _ => True) v0_ rows ∧ Below W.heap.size W w') := ⟨fun W hW => refCopyRows_walk Ar cr rows W (Kd.C_below hCr hW) hcr hsr⟩
            clear hM hx hCr hsr HM HV HUT HUA HR1
            go_wp2_with (first
              | ((with_reducible refine gate_builtin (b := .append) (xs := #[.tmp 74, .tmp 76]) rfl ?_); at_builtin; refine Kd.S_append k49 (w0 := w) w.heap.size rfl (.tmp 74) (.tmp 76) 23 72 (.agg #[(.string ⟨#[]⟩), (.slice none 0 0), (.slice none 0 0), (.slice none 0 0), (.slice none 0 0)]) 112 rfl Tryz.underlying23 info72 rfl (by decide) (by omega) u11 tabs (shT gone x) [Value.string x.f0, Value.slice A5 x.f1.length c5, Value.slice A6 x.f2.length c6, Value.slice A7 x.f3.length c7, Value.slice A8 x.f4.length c8] (fun _ => True) (fun k_ => N ≤ k_ ∧ k_ < G) rfl rfl HM2.out ?aQ (fun _ _ => trivial) ?aO HB.out HB.out.size (by have := HTL.out; omega) ?_; (case aQ => exact fun k hk => ⟨trivial, fun he => by have := (Kd.S_R HT.out).1 k he.symm; omega⟩); (case aO => exact Kd.S_mono HT.out (fun k hk => ⟨trivial, fun h9 => by omega⟩)); intro v16 w5 hv16 hb5 hg5 hat5; have HV16 := Aside0.mk hv16; have HB5 := Aside0.mk hb5; have HR5 := Aside0.mk (Kd.S_over' HR.out (Kd.S_typed HT.out) (by decide) hg5); have HN5 : Aside0 (N ≤ w5.heap.size) := ⟨by have := hg5.size; have := blk_lt HG.out; omega⟩; have hx5 := HX.out w5 hb5; clear hv16 hb5 hg5 hat5)
              | (go_at_call 21; refine (HCR.out _ HB5.out).mono ?_; rintro e w6 ⟨v, rfl, hv, hb6⟩; obtain ⟨Av, cv, ev⟩ := Kd.S_slice hv; subst ev; have HV6 := Aside0.mk hv; have HV16b := Aside0.mk (Kd.S_below HV16.out hb6); have HR6 := Aside0.mk (Kd.S_below HR5.out hb6); have HB6 := Aside0.mk (below_step HB5.out hb6); have HN6 : Aside0 (w5.heap.size ≤ w6.heap.size) := ⟨hb6.size⟩; clear hv hb6)
              | ((with_reducible refine gate_builtin (b := .append) (xs := #[.tmp 78, .tmp 84]) rfl ?_); at_builtin; refine Kd.S_append (Kd.slice 89 (Kd.slice 87 k64)) (w0 := w) w.heap.size rfl (.tmp 78) (.tmp 84) 25 41 (.slice none 0 0) 24 rfl Tryz.underlying25 info41 rfl (by decide) (by omega) u12 rws rows [.slice Av rows.length cv] (fun _ => True) (fun k_ => w5.heap.size ≤ k_) rfl rfl ?aP ?aQ (fun _ _ => trivial) ?aO HB6.out HB6.out.size (by have := HRL.out; omega) ?_; (case aP => exact Kd.M_row (Kd.R_lower (Kd.R_mono (Kd.R_bound (Kd.S_R HV6.out)) (fun _ hk => hk.2.1)) HB5.out.size)); (case aQ => exact fun k hk => ⟨trivial, fun he => by have := (Kd.S_R HR6.out).1 k he.symm; have := HN5.out; omega⟩); (case aO => exact Kd.S_mono HR6.out (fun k hk => ⟨trivial, fun h9 => by have := HN5.out; omega⟩)); intro v17 w7 hv17 hb7 hg7 _; have HV17 := Aside0.mk hv17; have HB7 := Aside0.mk hb7; have HV16c := Aside0.mk (Kd.S_over' HV16b.out (Kd.S_typed HR6.out) (by decide) hg7); clear hv17 hb7 hg7))
            go_roundg gk
            case measure => omega
            case rel => exact ⟨m + 1, by omega, by first | rfl | (simp; done) | (simp; unfold wrap64; omega), ⟨by rw [HKT.out]; exact HV16c.out⟩, ⟨by rw [HKR.out]; exact HV17.out⟩, HB7, HU2⟩
end Go.Proofs.YthgfdnffnbclpaaGreatDoor.PAll
namespace Go.Proofs.YthgfdnffnbclpaaGreatDoor.PAll
open Go.RowKit Go.Proofs.YthgfdnffnbclpaaGreatDoorW.PrintWords Go.Proofs.YthgfdnffnbclpaaGreatDoorW.PrintLast Go.Proofs.YthgfdnffnbclpaaGreatDoorW.PrintMore

theorem tabB_more {b : List S49} {t : S49} (h : tabB b t = true) : t.f2.length ≤ 4 ∧ t.f3.length ≤ 4 ∧ risB t.f4 (t.f1.length : Int) = true := by
  unfold tabB at h
  split at h
  · split at h
    · cases h
    split at h
    · cases h
    split at h
    · cases h
    simp only [Bool.and_eq_true] at h
    exact ⟨by omega, by omega, h.1⟩
  · cases h
theorem ref_early {s : List S49} {n : Nat} (hv : validB s = true) (hn : n < s.length) {r : S75} (hr : r ∈ s[n].f3) : 0 ≤ r.f1 ∧ r.f1 < (n : Int) ∧ r.f0.length ≤ 8 := by
  have hat := (validB_at hv).2
  have h1 := hat n hn
  rw [rdT49 hn] at h1
  have hb := (tabB_facts h1).2.2 r hr
  have hlen : (s.take n).length = n := by rw [List.length_take]; omega
  unfold refB at hb
  rw [hlen] at hb
  split at hb
  · cases hb
  split at hb
  · cases hb
  split at hb
  · cases hb
  split at hb
  · cases hb
  split at hb
  · rename_i q0 q1 q2 q3 q4
    refine ⟨by omega, by omega, ?_⟩
    obtain ⟨j, hj⟩ : ∃ j : Nat, r.f1 = (j : Int) := ⟨r.f1.toNat, by omega⟩
    rw [hj] at q1 q3 q4
    have hjn : j < n := by omega
    have e : rd_T49 (s.take n) (j : Int) = s[j] := by
      unfold rd_T49
      rw [Int.toNat_natCast, List.getD_eq_getElem?_getD, List.getElem?_take, if_pos hjn, List.getElem?_eq_getElem (by omega)]
      rfl
    rw [e] at q3 q4
    have h2 := hat j (by omega)
    rw [rdT49 (by omega : j < s.length)] at h2
    obtain ⟨k1, k2, _⟩ := tabB_facts h2
    have hm : rd_L6 s[j].f2 r.f2 ∈ s[j].f2 := by
      unfold rd_L6
      have hl : r.f2.toNat < s[j].f2.length := by omega
      rw [List.getD_eq_getElem?_getD, List.getElem?_eq_getElem hl]
      exact List.getElem_mem hl
    have := risB_len (k2 _ hm) (by omega)
    omega
  · cases hb
theorem smallS_of {s : List S49} (hv : validB s = true) : smallSch s := by
  obtain ⟨h16, hat⟩ := validB_at hv
  refine ⟨by omega, fun t ht => ?_⟩
  obtain ⟨n, hn, rfl⟩ := List.getElem_of_mem ht
  have h1 := hat n hn
  rw [rdT49 hn] at h1
  obtain ⟨a1, a2, a3⟩ := tabB_facts h1
  obtain ⟨b1, b2, b3⟩ := tabB_more h1
  refine ⟨by omega, ⟨by omega, fun key hk => ?_⟩, ⟨by omega, fun r hr => ?_⟩, ?_⟩
  · have := risB_len (a2 key hk) (by omega); omega
  · have := (ref_early hv hn hr).2.2; omega
  · have := risB_len b3 (by omega); omega
theorem ref_lt {s : List S49} (hv : validB s = true) : ∀ t ∈ s, ∀ r ∈ t.f3, r.f1 < (s.length : Int) := fun t ht r hr => by
  obtain ⟨n, hn, rfl⟩ := List.getElem_of_mem ht
  have := (ref_early hv hn hr).2.1; omega
theorem use_own {s : List S49} (hv : validB s = true) : ∀ (n : Nat) (h : n < s.length), useT (n : Int) s[n] = false := fun n h =>
  use_free fun r hr => beq_eq_false_iff_ne.mpr (by have := (ref_early hv h hr).2.1; omega)

def dropB (s : List S49) (d : Data) (nm : ByteArray) : List S49 × Data × Int :=
  if dataB s d = true then if (findB s nm).2 = true then dropAt s d (findB s nm).1.toNat else ([], [], 71) else ([], [], 1)
theorem refDrop_is (s : List S49) (d : Data) (nm : ByteArray) : refDropP s d nm = some (dropB s d nm) := by
  unfold refDropP dropB
  rw [refData_is, Option.bind_some]
  cases h : dataB s d with
  | false => rfl
  | true =>
    rw [if_pos rfl, if_pos rfl, refFind_is, Option.bind_some]
    split <;> rfl
theorem drop_is (s : List S49) (hw : ∀ t ∈ s, wfT t) (d : Data) (nm : ByteArray) : Ev (fun k => dropP k s d nm) (dropB s d nm) := by
  obtain ⟨K, hK⟩ := data_is s hw d
  refine ⟨K, fun k hk => ?_⟩
  have h := hK k hk
  simp only at h
  show dropP k s d nm = _
  unfold dropP dropB
  rw [h, Option.bind_some]
  cases hd : dataB s d with
  | false => rfl
  | true =>
    obtain ⟨hv, hl, hf, _⟩ := dataB_facts hd
    rw [if_pos rfl, if_pos rfl]
    obtain ⟨f1, f2⟩ := find_pos hv nm
    by_cases q : 0 ≤ findP nm 0 s
    · rw [if_neg (by omega), f1 q, if_pos rfl]
    · rw [if_pos (by omega), f2 q]; rfl
end Go.Proofs.YthgfdnffnbclpaaGreatDoor.PAll
