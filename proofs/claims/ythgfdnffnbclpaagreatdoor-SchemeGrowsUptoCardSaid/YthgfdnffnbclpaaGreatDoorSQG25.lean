import Derived.Test.YthgfdnffnbclpaaGreatDoorSQG24
set_option linter.unusedVariables false
set_option linter.unusedSimpArgs false
namespace Go.Proofs.YthgfdnffnbclpaaGreatDoor.PAll
open Go.RowKit Go.Proofs.YthgfdnffnbclpaaGreatDoorW.PrintWords Go.Proofs.YthgfdnffnbclpaaGreatDoorW.PrintLast Go.Proofs.YthgfdnffnbclpaaGreatDoorW.PrintMore
structure S61 where
 k : Int
 kd : Int
 Q : Option Addr
 qn : Nat
 qc : Nat
 nm : ByteArray
 cn : ByteArray
 defs : List S109
 keys : List (List ByteArray)
 refs : List S105
 rows : Rows
 H : Option Addr
 hn : Nat
 hc : Nat
 gone : List Bool
def z61 : S61 := ⟨0, 0, none, 0, 0, ⟨#[]⟩, ⟨#[]⟩, [], [], [], [], none, 0, 0, []⟩
def K61 (w : World) (x : S61) (cs : List Value) : Prop := ∃ A3 c3 A4 c4 A5 c5 A6 c6 A7 c7, cs = [.int .u8 x.k, .int .u8 x.kd, .slice x.Q x.qn x.qc, .string x.nm, .string x.cn, .slice A3 x.defs.length c3, .slice A4 x.keys.length c4, .slice A5 x.refs.length c5, .slice A6 x.rows.length c6, .slice x.H x.hn x.hc, .slice A7 x.gone.length c7] ∧
 (Kd.C k109 w A3 x.defs.length x.defs ∧ x.defs.length ≤ c3) ∧ (Kd.C (Kd.slice 9 Kd.string) w A4 x.keys.length x.keys ∧ x.keys.length ≤ c4) ∧ (Kd.C k105 w A5 x.refs.length x.refs ∧ x.refs.length ≤ c5) ∧ (Kd.C (Kd.slice 87 k64) w A6 x.rows.length x.rows ∧ x.rows.length ≤ c6) ∧ (Kd.C Kd.bool w A7 x.gone.length x.gone ∧ x.gone.length ≤ c7)
def k61 : Kd S61 where
 sz := 11
 E := []
 K := K61
 M := fun _ _ _ _ _ => False
 K_len := by rintro w x cs ⟨A3, c3, A4, c4, A5, c5, A6, c6, A7, c7, rfl, _⟩; rfl
 K_one := by
  rintro w x cs ⟨A3, c3, A4, c4, A5, c5, A6, c6, A7, c7, rfl, _⟩ u hu
  simp only [List.mem_cons, List.mem_nil_iff, or_false] at hu
  rcases hu with rfl | rfl | rfl | rfl | rfl | rfl | rfl | rfl | rfl | rfl | rfl <;> rfl
 K_below := by
  rintro w w1 x cs hb ⟨A3, c3, A4, c4, A5, c5, A6, c6, A7, c7, rfl, ⟨a1, b1⟩, ⟨a2, b2⟩, ⟨a3, b3⟩, ⟨a4, b4⟩, ⟨a5, b5⟩⟩
  exact ⟨A3, c3, A4, c4, A5, c5, A6, c6, A7, c7, rfl, ⟨Kd.C_below a1 hb, b1⟩, ⟨Kd.C_below a2 hb, b2⟩, ⟨Kd.C_below a3 hb, b3⟩, ⟨Kd.C_below a4 hb, b4⟩, ⟨Kd.C_below a5 hb, b5⟩⟩
 K_of_M := fun h => h.elim
 M_mono := fun _ h => h.elim
 M_bound := fun h => h.elim
 M_move := fun _ h => h.elim
 M_lower := fun _ h => h.elim
def okA (x : S61) : Prop := (0 ≤ x.k ∧ x.k ≤ 255) ∧ x.defs.length ≤ 2000000 ∧ (∀ z ∈ x.defs, z.f0.size ≤ 9223372036854775807) ∧ (∀ l ∈ x.keys, l.length ≤ 2000000) ∧
 (∀ r ∈ x.refs, r.f0.length ≤ 2000000 ∧ r.f2.length ≤ 2000000 ∧ (∀ z ∈ r.f0, z.size ≤ 9223372036854775807) ∧ (∀ z ∈ r.f2, z.size ≤ 9223372036854775807)) ∧ x.rows.length ≤ 2000000 ∧ wfRows x.rows
theorem at_T61 {w : World} {A : Option Addr} {n : Nat} {xs : List S61} (h : Kd.C k61 w A n xs) (i : Nat) (h1 : i < n) (hx : i < xs.length) : ∃ (ad : Addr) (A3 : Option Addr) (c3 : Nat) (A4 : Option Addr) (c4 : Nat) (A5 : Option Addr) (c5 : Nat) (A6 : Option Addr) (c6 : Nat) (A7 : Option Addr) (c7 : Nat), A = some ad ∧
  (w.cell? (ad.add (i * 11)) = some (.int .u8 xs[i].k) ∧ w.cell? ⟨(ad.add (i * 11)).block, (ad.add (i * 11)).off + 1, none⟩ = some (.int .u8 xs[i].kd) ∧ w.cell? ⟨(ad.add (i * 11)).block, (ad.add (i * 11)).off + 2, none⟩ = some (.slice xs[i].Q xs[i].qn xs[i].qc) ∧ w.cell? ⟨(ad.add (i * 11)).block, (ad.add (i * 11)).off + 3, none⟩ = some (.string xs[i].nm) ∧ w.cell? ⟨(ad.add (i * 11)).block, (ad.add (i * 11)).off + 4, none⟩ = some (.string xs[i].cn) ∧
   w.cell? ⟨(ad.add (i * 11)).block, (ad.add (i * 11)).off + 5, none⟩ = some (.slice A3 xs[i].defs.length c3) ∧ w.cell? ⟨(ad.add (i * 11)).block, (ad.add (i * 11)).off + 6, none⟩ = some (.slice A4 xs[i].keys.length c4) ∧ w.cell? ⟨(ad.add (i * 11)).block, (ad.add (i * 11)).off + 7, none⟩ = some (.slice A5 xs[i].refs.length c5) ∧ w.cell? ⟨(ad.add (i * 11)).block, (ad.add (i * 11)).off + 8, none⟩ = some (.slice A6 xs[i].rows.length c6) ∧ w.cell? ⟨(ad.add (i * 11)).block, (ad.add (i * 11)).off + 9, none⟩ = some (.slice xs[i].H xs[i].hn xs[i].hc) ∧ w.cell? ⟨(ad.add (i * 11)).block, (ad.add (i * 11)).off + 10, none⟩ = some (.slice A7 xs[i].gone.length c7)) ∧
  (Kd.C k109 w A3 xs[i].defs.length xs[i].defs ∧ xs[i].defs.length ≤ c3) ∧ (Kd.C (Kd.slice 9 Kd.string) w A4 xs[i].keys.length xs[i].keys ∧ xs[i].keys.length ≤ c4) ∧ (Kd.C k105 w A5 xs[i].refs.length xs[i].refs ∧ xs[i].refs.length ≤ c5) ∧ (Kd.C (Kd.slice 87 k64) w A6 xs[i].rows.length xs[i].rows ∧ xs[i].rows.length ≤ c6) ∧ (Kd.C Kd.bool w A7 xs[i].gone.length xs[i].gone ∧ xs[i].gone.length ≤ c7) := by
 obtain ⟨ad, c, e, _, hK, hc0⟩ := Kd.C_get h z61 (i : Int) (by omega) (by omega)
 have e1 : xs.getD (i : Int).toNat z61 = xs[i] := by simp [List.getD, hx]
 rw [e1] at hK
 have hc : ∀ j u, c[j]? = some u → w.cell? (ad.add (i * 11 + j)) = some u := hc0
 obtain ⟨A3, c3, A4, c4, A5, c5, A6, c6, A7, c7, rfl, h3, h4, h5, h6, h7⟩ := (show K61 w xs[i] c from hK)
 exact ⟨ad, A3, c3, A4, c4, A5, c5, A6, c6, A7, c7, e, ⟨hc 0 _ rfl, by rw [← add_field _ _ 1 (by omega)]; exact hc 1 _ rfl, by rw [← add_field _ _ 2 (by omega)]; exact hc 2 _ rfl, by rw [← add_field _ _ 3 (by omega)]; exact hc 3 _ rfl, by rw [← add_field _ _ 4 (by omega)]; exact hc 4 _ rfl, by rw [← add_field _ _ 5 (by omega)]; exact hc 5 _ rfl, by rw [← add_field _ _ 6 (by omega)]; exact hc 6 _ rfl, by rw [← add_field _ _ 7 (by omega)]; exact hc 7 _ rfl, by rw [← add_field _ _ 8 (by omega)]; exact hc 8 _ rfl, by rw [← add_field _ _ 9 (by omega)]; exact hc 9 _ rfl, by rw [← add_field _ _ 10 (by omega)]; exact hc 10 _ rfl⟩, h3, h4, h5, h6, h7⟩
set_option maxHeartbeats 4000000 in
set_option maxRecDepth 100000 in
theorem grows_law (A0 : Option Addr) (c0 : Nat) (l : List S61) (w : World) (hA : Kd.C k61 w A0 l.length l) (hc0 : l.length ≤ c0) (hok : ∀ x ∈ l, okA x) (hL : LaidL w) (hmax : l.length ≤ 2000000) :
  Calls Tryz.prog 7 #[.slice A0 l.length c0] w fun e w' => e = .returned (.bool true) ∧ Below w.heap.size w w' := by
 have HA := Aside0.mk hA
 have HOK := Aside0.mk hok
 have HL := Aside0.mk (fun W (hW : Below w.heap.size w W) => LaidL.below ⟨hL⟩ hW)
 have HB0 := Aside0.mk (Below.refl w.heap.size w)
 have HZ : Aside0 (∃ (s : List S49) (d : Data) (A : Option Addr) (c : Nat) (A' : Option Addr) (c' : Nat), Value.slice none 0 0 = .slice A s.length c ∧ Value.slice none 0 0 = .slice A' d.length c' ∧ Kd.C k49 w A s.length s ∧ s.length ≤ c ∧ Kd.C (Kd.slice 89 (Kd.slice 87 k64)) w A' d.length d ∧ d.length ≤ c' ∧ Good s d) :=
  ⟨[], [], none, 0, none, 0, rfl, rfl, (Kd.S_reads' (Kd.S_nil k49 72 w w.heap.size (fun _ => True))).2.2, Nat.le_refl _, (Kd.S_reads' (Kd.S_nil (Kd.slice 89 (Kd.slice 87 k64)) 41 w w.heap.size (fun _ => True))).2.2, Nat.le_refl _, good_nil⟩
 clear hA hok hL
 go_enter Tryz.func7, Tryz.ntmps7
 go_wp2
 go_loopg [3, 4, 5] l.length (fun gk v3 v4 v5 wx => ∃ (m : Nat), m + gk = l.length ∧ v5 = .int .i64 m ∧ Aside0 (∃ (s : List S49) (d : Data) (A : Option Addr) (c : Nat) (A' : Option Addr) (c' : Nat), v3 = .slice A s.length c ∧ v4 = .slice A' d.length c' ∧ Kd.C k49 wx A s.length s ∧ s.length ≤ c ∧ Kd.C (Kd.slice 89 (Kd.slice 87 k64)) wx A' d.length d ∧ d.length ≤ c' ∧ Good s d) ∧ Aside0 (Below w.heap.size w wx))
 case atStart => exact ⟨0, by omega, rfl, HZ, HB0⟩
 case round =>
  clear HZ HB0
  obtain ⟨m, hm, rfl, HT, HB⟩ := hrel
  cases gk with
  | zero =>
   have hmi : ¬ (m : Int) < (l.length : Int) := by omega
   have HAW := Aside0.mk (awake_walk _ (HL.out _ HB.out))
   go_wp2_with (go_at_call 12; refine HAW.out.mono ?_; rintro e w1 ⟨rfl, hb1⟩; have HB1 := Aside0.mk (below_step HB.out hb1); clear hb1)
   go_ret
   exact ⟨rfl, HB1.out⟩
  | succ gk =>
   have hlt : m < l.length := by omega
   have hmi : (m : Int) < (l.length : Int) := by omega
   have hm0 : (0 : Int) ≤ (m : Int) := by omega
   obtain ⟨s, d, A1, c1, A2, c2, rfl, rfl, hS, hc1, hD, hc2, hg⟩ := HT.out
   obtain ⟨ad, A3, c3, A4, c4, A5, c5, A6, c6, A7, c7, rfl, ⟨z0, z1, z2, z3, z4, z5, z6, z7, z8, z9, z10⟩, ⟨h3, l3⟩, ⟨h4, l4⟩, ⟨h5, l5⟩, ⟨h6, l6⟩, ⟨h7, l7⟩⟩ := at_T61 (Kd.C_below HA.out HB.out) m hlt hlt
   obtain ⟨o1, o2, o3, o4, o5, o6, o7⟩ := HOK.out _ (List.getElem_mem hlt)
   have H27 := Aside0.mk (act_walk A1 c1 s A2 c2 d l[m].k l[m].kd l[m].Q l[m].qn l[m].qc l[m].nm l[m].cn A3 c3 l[m].defs A4 c4 l[m].keys A5 c5 l[m].refs A6 c6 l[m].rows l[m].H l[m].hn l[m].hc A7 c7 l[m].gone _ o1 hg hS hc1 hD hc2 h3 l3 h4 l4 h5 l5 h6 l6 h7 l7 (HL.out _ HB.out) o2 o3 o4 o5 o6 o7)
   have HK0 : Aside0 (0 ≤ l[m].k) := ⟨o1.1⟩
   clear hg hS hD h3 h4 h5 h6 h7 l3 l4 l5 l6 l7 o1 o2 o3 o4 o5 o6 o7 HT
   go_upto_region 7 with (go_at_call 27; refine H27.out.mono ?_; rintro e w1 ⟨s', d', A8, c8, A9, c9, er, rfl, hS1, hc8, hD1, hc9, hg1, her, hb1⟩; have HS1 := Aside0.mk hS1; have HD1 := Aside0.mk hD1; have HG1 := Aside0.mk hg1; have HER := Aside0.mk her; have HBW := Aside0.mk hb1; have HB1 := Aside0.mk (below_step HB.out hb1); clear hS1 hD1 hg1 her hb1)
   replace z0 := (HBW.out.cell (World.block_lt_of_cell? _ _ z0)).trans z0
   clear z1 z2 z3 z4 z5 z6 z7 z8 z9 z10 H27
   obtain ⟨hv1, hw1, hd1, -⟩ := good_facts HG1.out
   obtain ⟨k2, hk2⟩ := data_is s' hw1 d'
   replace hk2 : dataP k2 s' d' = some true := by rw [← HG1.out.1]; exact hk2 _ (Nat.le_refl _)
   obtain ⟨k3, hk3⟩ := valid_is s' hw1
   replace hk3 : scheme_Valid.f k3 s' = some true := by rw [← hv1]; exact hk3 _ (Nat.le_refl _)
   have hk4 : refDataP s' d' = some true := by rw [← HG1.out.1]; exact refData_is s' d'
   have H28 := Aside0.mk (scheme_Valid.calls k3 A8 c8 s' true _ HS1.out hc8 hk3 (HL.out _ HB1.out))
   have H29 := Aside0.mk (fun W (hW : Below _ w1 W) => validData_walk k2 A8 c8 s' A9 c9 d' true W (Kd.C_below HS1.out hW) hc8 (Kd.C_below HD1.out hW) hc9 hd1 (HL.out _ (below_step HB1.out hW)) hk2)
   have H30 := Aside0.mk (fun W (hW : Below _ w1 W) => refData_walk A8 c8 s' A9 c9 d' true W (Kd.C_below HS1.out hW) hc8 (Kd.C_below HD1.out hW) hc9 hd1 hk4)
   clear hv1 hw1 hd1 hk2 hk3 hk4
   by_cases q : er = 1
   ·have hkk : (l[m].k.tmod 6 != 0) = false := by
     have h1 := HER.out q
     have h2 := HK0.out
     rw [Int.tmod_eq_emod_of_nonneg h2, h1]; rfl
    subst q
    go_wp2_with (first
     | (go_at_call 28; refine H28.out.mono ?_; rintro e w2 ⟨rfl, hb2⟩; have HB2 := Aside0.mk hb2; have HB3 := Aside0.mk (below_step HB1.out hb2); clear hb2)
     | (go_at_call 29; refine (H29.out _ HB2.out).mono ?_; rintro e w3 ⟨rfl, hb3⟩; have HB4 := Aside0.mk (below_step HB2.out hb3); have HB5 := Aside0.mk (below_step HB3.out hb3); clear hb3)
     | (go_at_call 30; refine (H30.out _ HB4.out).mono ?_; rintro e w4 ⟨rfl, hb4⟩; have HB6 := Aside0.mk (below_step HB4.out hb4); have HB7 := Aside0.mk (below_step HB5.out hb4); clear hb4))
    go_roundg gk
    case measure => omega
    case rel => exact ⟨m + 1, by omega, by first | rfl | (simp; done) | (simp; unfold wrap64; omega), ⟨s', d', A8, c8, A9, c9, rfl, rfl, Kd.C_below HS1.out HB6.out, hc8, Kd.C_below HD1.out HB6.out, hc9, HG1.out⟩, HB7⟩
   ·have d1 : (er == 1) = false := beq_eq_false_iff_ne.mpr q
    go_wp2_with (first
     | (go_at_call 28; refine H28.out.mono ?_; rintro e w2 ⟨rfl, hb2⟩; have HB2 := Aside0.mk hb2; have HB3 := Aside0.mk (below_step HB1.out hb2); clear hb2)
     | (go_at_call 29; refine (H29.out _ HB2.out).mono ?_; rintro e w3 ⟨rfl, hb3⟩; have HB4 := Aside0.mk (below_step HB2.out hb3); have HB5 := Aside0.mk (below_step HB3.out hb3); clear hb3)
     | (go_at_call 30; refine (H30.out _ HB4.out).mono ?_; rintro e w4 ⟨rfl, hb4⟩; have HB6 := Aside0.mk (below_step HB4.out hb4); have HB7 := Aside0.mk (below_step HB5.out hb4); clear hb4))
    go_roundg gk
    case measure => omega
    case rel => exact ⟨m + 1, by omega, by first | rfl | (simp; done) | (simp; unfold wrap64; omega), ⟨s', d', A8, c8, A9, c9, rfl, rfl, Kd.C_below HS1.out HB6.out, hc8, Kd.C_below HD1.out HB6.out, hc9, HG1.out⟩, HB7⟩
end Go.Proofs.YthgfdnffnbclpaaGreatDoor.PAll
