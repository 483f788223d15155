import Derived.Test.YthgfdnffnbclpaaGreatDoorSQC20
set_option linter.unusedVariables false
set_option linter.unusedSimpArgs false
namespace Go.Proofs.YthgfdnffnbclpaaGreatDoor.PAll
open Go.RowKit Go.Proofs.YthgfdnffnbclpaaGreatDoorW.PrintWords Go.Proofs.YthgfdnffnbclpaaGreatDoorW.PrintLast Go.Proofs.YthgfdnffnbclpaaGreatDoorW.PrintMore
theorem zgT {a b c : World} {g : Nat} {r : Option Nat} (h : a.grownBy b (some g)) (k : b.grownBy c r) (hr : ∀ j, r = some j → a.heap.size ≤ j) : a.grownBy c (some g) :=
 ⟨k.os.trans h.os, k.tape.trans h.tape, k.output.trans h.output, Nat.le_trans h.size k.size, fun i hi hn => (k.block i (Nat.lt_of_lt_of_le hi h.size) (fun e => by have := hr i e.symm; omega)).trans (h.block i hi hn)⟩
def Bd (g base : Nat) (b : Value) (nm : ByteArray) (cols : List S78) (keys : List (List Int)) (refs : List S75) (err : Int) (W : World) : Prop :=
 base ≤ g ∧ ∃ v1 v2 v3, W.heap[g]? = some (.cells #[b, .string nm, v1, v2, v3, .slice none 0 0, .int .i64 err] 118 (0, 0)) ∧ k78.R 83 W base (fun _ => True) v1 cols ∧ (Kd.slice 3 (Kd.int .i64)).R 70 W base (fun _ => True) v2 keys ∧ k75.R 75 W base (fun _ => True) v3 refs
theorem zaU {W : World} {g t : Nat} {a b c d e f h : Value} (hb : W.heap[g]? = some (.cells #[a, b, c, d, e, f, h] t (0, 0))) :
  W.cell? ⟨g, 0, none⟩ = some a ∧ W.cell? ⟨g, 1, none⟩ = some b ∧ W.cell? ⟨g, 2, none⟩ = some c ∧ W.cell? ⟨g, 3, none⟩ = some d ∧ W.cell? ⟨g, 4, none⟩ = some e ∧ W.cell? ⟨g, 5, none⟩ = some f ∧ W.cell? ⟨g, 6, none⟩ = some h ∧ ∀ j, W.frozen? ⟨g, j, none⟩ = false :=
 ⟨(zad hb 0).trans rfl, (zad hb 1).trans rfl, (zad hb 2).trans rfl, (zad hb 3).trans rfl, (zad hb 4).trans rfl, (zad hb 5).trans rfl, (zad hb 6).trans rfl, fun j => zaf hb j⟩
theorem zaN {α : Type} {d : Kd α} {e base g t : Nat} {w w1 : World} {v : Value} {xs : List α} {cells : Array Value} (h : d.R e w base (fun _ => True) v xs) (hb : w.heap[g]? = some (.cells cells t (0, 0))) (ht : ∀ q, q ∈ e :: d.E → q ≠ t) (hg : w.grownBy w1 (some g)) : d.R e w1 base (fun _ => True) v xs :=
 Kd.R_mono (Kd.R_grown (Kd.R_types h hb ht) hg (fun k hk he => hk.2 (by injection he))) (fun _ _ => trivial)
def sortI (l : List Int) : List Int := l.mergeSort (fun a b => decide (a ≤ b))
theorem zbK (l : List Int) : (sortI l).Perm l := List.mergeSort_perm l _
theorem zbz (l : List Int) : (sortI l).Pairwise (· ≤ ·) := by
 have h := List.pairwise_mergeSort (le := fun a b : Int => decide (a ≤ b)) (fun a b c h1 h2 => by simp at *; omega) (fun a b => by simp; omega) l
 exact h.imp (fun h => by simpa using h)
theorem zbU {α : Type} [DecidableEq α] : ∀ (l S : List α), distP S l = true → l.Nodup ∧ ∀ x ∈ l, x ∉ S
 | [], _, _ => ⟨List.nodup_nil, fun x h => by cases h⟩
 | x :: r, S, h => by
  rw [distP] at h
  split at h
  ·cases h
  ·rename_i q
   obtain ⟨h1, h2⟩ := zbU r _ h
   refine ⟨List.nodup_cons.2 ⟨fun hx => h2 x hx (by simp), h1⟩, fun y hy => ?_⟩
   rcases List.mem_cons.1 hy with e | hy
   ·subst e; exact fun hs => q ((zaQ _ _).2 hs)
   ·exact fun hs => h2 y hy (by simp [hs])
theorem zdV : ∀ (l : List Int) (m : Nat), l.Nodup → (∀ x ∈ l, 0 ≤ x ∧ x < (m : Int)) → l.length ≤ m
 | l, 0, _, h => by
  cases l with
  | nil => exact Nat.le_refl _
  | cons x r => have := h x List.mem_cons_self; omega
 | l, m + 1, hn, h => by
  have h1 := zdV (l.erase (m : Int)) m (hn.erase _) (fun x hx => by
   have h2 := h x (List.mem_of_mem_erase hx)
   have h3 : x ≠ (m : Int) := fun e => by subst e; exact (List.Nodup.not_mem_erase hn) hx
   omega)
  by_cases q : (m : Int) ∈ l
  ·rw [List.length_erase_of_mem q] at h1; omega
  ·rw [List.erase_of_not_mem q] at h1; omega
def keyS (cols : List S78) (keys : List (List Int)) (l : List ByteArray) : List (List Int) × Int :=
 if askE (askE 0 (decide (-1 ∈ colsN cols l)) 71) (!distP [] (colsN cols l)) 70 = 0 then (keys ++ [sortI (colsN cols l)], 0) else (keys, askE (askE 0 (decide (-1 ∈ colsN cols l)) 71) (!distP [] (colsN cols l)) 70)
theorem zbi (cols : List S78) (l : List ByteArray) : ∀ x ∈ colsN cols l, x = -1 ∨ (0 ≤ x ∧ x < (cols.length : Int)) := fun x hx => by
 unfold colsN at hx
 obtain ⟨s, _, rfl⟩ := List.mem_map.1 hx
 rcases zch s cols 0 with h | h
 ·exact .inl h
 ·exact .inr ⟨by omega, by have := h.2; omega⟩
theorem zbs {e : Int} {b : Bool} {c : Int} (hc : c ≠ 0) (h : askE e b c = 0) : e = 0 ∧ b = false := by
 unfold askE at h
 split at h
 ·split at h
  ·exact absurd h hc
  ·rename_i h1 h2; exact ⟨h1, by simpa using h2⟩
 ·rename_i h1; exact absurd h h1
theorem zj4 {cols : List S78} {l : List ByteArray} (h : askE (askE 0 (decide (-1 ∈ colsN cols l)) 71) (!distP [] (colsN cols l)) 70 = 0) : (colsN cols l).length ≤ cols.length := by
 obtain ⟨h1, h2⟩ := zbs (by decide) h
 obtain ⟨_, h3⟩ := zbs (by decide) h1
 have h4 : -1 ∉ colsN cols l := by simpa using h3
 have h5 : distP [] (colsN cols l) = true := by simpa using h2
 exact zdV _ _ (zbU _ _ h5).1 (fun x hx => (zbi cols l x hx).elim (fun e => absurd (e ▸ hx) h4) id)
theorem zkY (s : ByteArray) (cols : List S78) (hc : cols.length ≤ 2000000) : (Lit.int .i64 (colP s 0 cols)).wf = true := by
 have := zch s cols 0
 have e1 : IntKind.i64.min = -9223372036854775808 := by decide
 have e2 : IntKind.i64.max = 9223372036854775807 := by decide
 show (decide (IntKind.i64.min ≤ colP s 0 cols) && decide (colP s 0 cols ≤ IntKind.i64.max)) = true
 rw [e1, e2, Bool.and_eq_true, decide_eq_true_eq, decide_eq_true_eq]
 omega
set_option maxHeartbeats 4000000 in
set_option maxRecDepth 100000 in
theorem zj7 (g base : Nat) (b : Value) (nm : ByteArray) (cols : List S78) (keys : List (List Int)) (refs : List S75) (A0 : Option Addr) (c0 : Nat) (l : List ByteArray) (w : World) (hB : Bd g base b nm cols keys refs 0 w) (hr0 : Kd.C Kd.string w A0 l.length l) (hc0 : l.length ≤ c0) (hs : l.length ≤ 2000000) (hcl : cols.length ≤ 8) (hkl : keys.length ≤ 2000000) :
  Calls Tryz.prog 67 #[.pointer (some ⟨g, 0, none⟩), .slice A0 l.length c0] w fun e w' => e = .returned (.tuple #[]) ∧ Bd g base b nm cols (keyS cols keys l).1 refs (keyS cols keys l).2 w' ∧ Below base w w' := by
 obtain ⟨hbg, v1, v2, v3, hb, h1, h2, h3⟩ := hB
 obtain ⟨A1, c1, e1⟩ := Kd.R_slice h1
 obtain ⟨A2, c2, e2⟩ := Kd.R_slice h2
 obtain ⟨A3, c3, e3⟩ := Kd.R_slice h3
 subst e1 e2 e3
 obtain ⟨_, hc1, hC1⟩ := Kd.R_reads' h1
 have HNUM := Aside0.mk (zb7 g b (.string nm) (.slice A1 cols.length c1) (.slice A2 keys.length c2) (.slice A3 refs.length c3) (.slice none 0 0) 0 nm A1 c1 cols A2 keys.length c2 A3 refs.length c3 none 0 0 A0 c0 l w hb hC1 hc1 hr0 hc0 hs)
 obtain ⟨z0, z1, z2, z3, z4, z5, z6, zf⟩ := zaU hb
 have HBG := Aside0.mk hbg
 have HBK := Aside0.mk hb
 have H1 := Aside0.mk h1
 have H2 := Aside0.mk h2
 have H3 := Aside0.mk h3
 have hgs := zah hb
 have HGS := Aside0.mk hgs
 have HBW : Aside0 (base ≤ w.heap.size) := ⟨by omega⟩
 have HWF := Aside0.mk (fun (x : Int) (hx : x ∈ colsN cols l) => (by
  unfold colsN at hx
  obtain ⟨s, _, rfl⟩ := List.mem_map.1 hx
  exact zkY s cols (by omega) : (Lit.int .i64 x).wf = true))
 have HLEN := Aside0.mk (fun h => zj4 (cols := cols) (l := l) h)
 clear hb h1 h2 h3 hC1 hr0 hbg hgs
 unfold keyS
 generalize colsN cols l = n at *
 generalize hp : decide (-1 ∈ n) = p at *
 have HD : Aside0 (∀ (A : Option Addr) (c : Nat) (W : World), n.length ≤ c → Kd.C (Kd.int .i64) W A n.length n → Calls Tryz.prog 116 #[.slice A n.length c] W fun e w' => e = .returned (.bool (distP [] n)) ∧ Below W.heap.size W w') := ⟨fun A c W hc hC => scheme_distinct_int.calls A c n (distP [] n) W hC hc (by unfold scheme_distinct_int.f; rw [if_pos (List.all_eq_true.2 HWF.out)])⟩
 clear hp HWF
 generalize distP [] n = q at *
 by_cases he : askE (askE 0 p 71) (!q) 70 = 0
 case neg =>
  rw [if_neg he]
  have d1 : (askE (askE 0 p 71) (!q) 70 == 0) = false := beq_eq_false_iff_ne.mpr he
  clear he HLEN
  go_enter Tryz.func67, Tryz.ntmps67
  go_wp2_with (first
   | (go_at_call 115; refine HNUM.out.mono ?_; rintro e w1 ⟨A5, c5, rfl, hn1, hb1, hg1⟩; have HN1 := Aside0.mk (Kd.R_reads' hn1); have HB1 := Aside0.mk hb1; have HG1 := Aside0.mk hg1; clear hn1 hb1 hg1)
   | (go_at_call 116; refine (HD.out _ _ _ HN1.out.2.1 HN1.out.2.2).mono ?_; rintro e w2 ⟨rfl, hb2⟩; have HB2 := Aside0.mk ((hb2.block g (zah HB1.out)).trans HB1.out); have HG2 := Aside0.mk (zae HG1.out (zao hb2 _)); clear hb2)
   | (go_at_call 63; refine (zaP g _ _ _ _ _ _ _ _ _ _ HB2.out).mono ?_; rintro e w3 ⟨rfl, hb3, hg3⟩; have HB3 := Aside0.mk hb3; have HG3 := Aside0.mk (zae HG2.out hg3); clear hb3 hg3))
  go_end0
  exact ⟨rfl, ⟨HBG.out, _, _, _, HB3.out, zaN H1.out HBK.out (by decide) HG3.out, zaN H2.out HBK.out (by decide) HG3.out, zaN H3.out HBK.out (by decide) HG3.out⟩, zav HG3.out HBW.out HBG.out⟩
 case pos =>
  rw [if_pos he]
  have d1 : (askE (askE 0 p 71) (!q) 70 == 0) = true := beq_iff_eq.mpr he
  have hnl := HLEN.out he
  have HE := Aside0.mk he
  have HSO : Aside0 (∀ (A : Option Addr) (c : Nat) (bs : Nat) (W : World), (Kd.int .i64).R 3 W bs (fun _ => True) (.slice A n.length c) n → Calls Tryz.prog 117 #[.slice A n.length c] W fun e w' => e = .returned (.tuple #[]) ∧ (Kd.int .i64).R 3 w' bs (fun _ => True) (.slice A n.length c) (sortI n) ∧ W.grownBy w' (Value.slice A n.length c).ownBlock) := ⟨fun A c bs W h => zft A c n (sortI n) bs (fun _ => True) W h (by omega) (zbK n) (zbz n)⟩
  clear he HLEN
  go_enter Tryz.func67, Tryz.ntmps67
  go_wp2_with (first
   | (go_at_call 115; refine HNUM.out.mono ?_; rintro e w1 ⟨A5, c5, rfl, hn1, hb1, hg1⟩; have HN1 := Aside0.mk (Kd.R_reads' hn1); have HN1R := Aside0.mk hn1; have HB1 := Aside0.mk hb1; have HG1 := Aside0.mk hg1; clear hn1 hb1 hg1)
   | (go_at_call 116; refine (HD.out _ _ _ HN1.out.2.1 HN1.out.2.2).mono ?_; rintro e w2 ⟨rfl, hb2⟩; have HN2R := Aside0.mk (Kd.R_below HN1R.out hb2); have HB2 := Aside0.mk ((hb2.block g (zah HB1.out)).trans HB1.out); have HG2 := Aside0.mk (zae HG1.out (zao hb2 _)); clear hb2)
   | (go_at_call 63; refine (zaP g _ _ _ _ _ _ _ _ _ _ HB2.out).mono ?_; rintro e w3 ⟨rfl, hb3, hg3⟩; have HN3R := Aside0.mk (zaN HN2R.out HB2.out (by decide) hg3); have HB3 := Aside0.mk hb3; have HG3 := Aside0.mk (zae HG2.out hg3); clear hb3 hg3)
   | (go_at_call 117; refine (HSO.out A5 c5 _ w3 HN3R.out).mono ?_; rintro e w4 ⟨rfl, hn4, hg4⟩; have HN4R := Aside0.mk hn4; have HNE := Aside0.mk (Kd.R_ne HN3R.out HB3.out (by decide)); have HB4 := Aside0.mk (zax HB3.out hg4 HNE.out); have HG4 := Aside0.mk (zgT HG3.out hg4 (fun j hj => Kd.R_base HN3R.out j hj)); obtain ⟨y0, y1, y2, y3, y4, y5, y6, yf⟩ := zaU HB4.out; have H24 := Aside0.mk (zaN H2.out HBK.out (by decide) HG4.out); clear hn4 hg4)
   | ((with_reducible refine zam (b := .append) (xs := #[.tmp 24, .tmp 26]) rfl ?_); at_builtin; refine Kd.R_append (Kd.slice 3 (Kd.int .i64)) (w0 := w4) base rfl (.tmp 24) (.tmp 26) 68 70 (.slice none 0 0) 24 rfl Tryz.underlying68 zhp rfl (by decide) (by omega) (.slice A2 keys.length c2) keys (sortI n) [.slice A5 n.length c5] (fun _ => True) (fun k => w.heap.size ≤ k) rfl rfl (Kd.M_row (Kd.R_lower (Kd.R_mono (Kd.R_bound HN4R.out) (fun k hk => hk.2.1)) HBW.out)) (fun k hk => ⟨trivial, fun he => by have := Kd.R_lt H2.out k he.symm; omega⟩) (fun _ _ => trivial) H24.out (Below.refl _ _) (Nat.le_trans HBW.out HG4.out.size) (by omega) ?_; intro v9 w5 hv9 _ hg5 _; obtain ⟨A6, c6, e6⟩ := Kd.R_slice hv9; subst e6; have HV := Aside0.mk hv9; have HG5 := Aside0.mk hg5; have HB5 := Aside0.mk (zax HB4.out hg5 (Kd.R_ne H24.out HB4.out (by decide))); obtain ⟨x0, x1, x2, x3, x4, x5, x6, xf⟩ := zaU HB5.out; clear hv9 hg5))
  have H15 := Kd.R_over' (zaN H1.out HBK.out (by decide) HG4.out) (Kd.R_typed H24.out) (by decide) HG5.out
  have H35 := Kd.R_over' (zaN H3.out HBK.out (by decide) HG4.out) (Kd.R_typed H24.out) (by decide) HG5.out
  have HE0 := HE.out
  rw [HE0] at HB5
  have HV2 := HV.out
  rw [show (keys ++ [sortI n]).length = keys.length + 1 by simp] at HV2
  go_end0
  refine ⟨rfl, ⟨HBG.out, _, _, _, zas HB5.out 3 _ rfl, Kd.R_set H15 HB5.out (by decide) 3 _, Kd.R_set HV2 HB5.out (by decide) 3 _, Kd.R_set H35 HB5.out (by decide) 3 _⟩, ?_⟩
  exact ((zav HG4.out HBW.out HBG.out).grown HG5.out (Nat.le_trans HBW.out HG4.out.size) (fun k hk => Kd.R_base H24.out k hk)).setCell (p := ⟨g, 3, none⟩) HBG.out _
theorem zhG (A : Option Addr) (c : Nat) (key : List Int) (a : Nat) (As : Option Addr) (cs : Nat) (so : List Int) (w : World) (hC : Kd.C (Kd.int .i64) w A key.length key) (hc : key.length ≤ c) (hS : Kd.C (Kd.int .i64) w As so.length so) (hcs : so.length ≤ cs) (hx : w.cell? ⟨a, 0, none⟩ = some (.slice As so.length cs)) :
  Calls Tryz.prog 121 #[.slice A key.length c, .pointer (some ⟨a, 0, none⟩)] w fun e w' => e = .returned (.bool (eqI key so)) ∧ Below w.heap.size w w' := by
 have HN := Aside0.mk (zhX A c key As cs so w hC hc hS hcs)
 clear hC hS
 go_enter Tryz.func121, Tryz.ntmps121
 go_wp2_with (go_at_call 122; refine HN.out.mono ?_; rintro e w1 ⟨rfl, hb1⟩)
 go_ret
 exact ⟨rfl, hb1⟩
set_option maxRecDepth 100000 in
theorem zgo (A : Option Addr) (c : Nat) (l : List (List Int)) (a : Nat) (As : Option Addr) (cs : Nat) (so : List Int) (w : World) (hC : Kd.C (Kd.slice 3 (Kd.int .i64)) w A l.length l) (hc : l.length ≤ c) (hS : Kd.C (Kd.int .i64) w As so.length so) (hcs : so.length ≤ cs) (hx : w.cell? ⟨a, 0, none⟩ = some (.slice As so.length cs)) :
  Calls Tryz.prog 120 #[.slice A l.length c, .func (.func 121) #[] #[.pointer (some ⟨a, 0, none⟩)]] w fun e w' => e = .returned (.int .i64 (idxP (fun key => eqI key so) 0 l)) ∧ Below w.heap.size w w' := by
 have HC := Aside0.mk hC
 have HF : Aside0 (∀ (A : Option Addr) (c : Nat) (key : List Int) (W : World), Below w.heap.size w W → Kd.C (Kd.int .i64) W A key.length key → key.length ≤ c → Calls Tryz.prog 121 #[.slice A key.length c, .pointer (some ⟨a, 0, none⟩)] W fun e w' => e = .returned (.bool (eqI key so)) ∧ Below W.heap.size W w') := ⟨fun A c key W hW hk hck => zhG A c key a As cs so W hk hck (Kd.C_below hS hW) hcs ((hW.cell (World.block_lt_of_cell? w _ hx)).trans hx)⟩
 have HB0 := Aside0.mk (Below.refl w.heap.size w)
 clear hC hS hx
 generalize hp0 : (fun key => eqI key so) = p at *
 have HPE : Aside0 (∀ key, eqI key so = p key) := ⟨fun key => by rw [← hp0]⟩
 clear hp0
 go_enter Tryz.func120, Tryz.ntmps120
 go_wp2
 go_loopg [8] l.length (fun gk v8 wx => ∃ (i : Nat), i + gk = l.length ∧ v8 = .int .i64 i ∧ Aside0 (Below w.heap.size w wx) ∧ Aside0 (idxP p 0 l = idxP p i (l.drop i)))
 case atStart => exact ⟨0, by omega, rfl, HB0, ⟨by simp⟩⟩
 case round =>
  clear HB0
  obtain ⟨i, hi, rfl, HW, HP⟩ := hrel
  cases gk with
  | zero =>
   have e : l.drop i = [] := List.drop_eq_nil_of_le (by omega)
   have hp := HP.out
   rw [e] at hp
   have hii : ¬ (i : Int) < (l.length : Int) := by omega
   go_wp2
   go_ret
   exact ⟨by first | rfl | (rw [hp]; rfl), HW.out⟩
  | succ gk =>
   have hlt : i < l.length := by omega
   have hii : (i : Int) < (l.length : Int) := by omega
   have hi0 : (0 : Int) ≤ (i : Int) := by omega
   have hdr : l.drop i = l[i] :: l.drop (i + 1) := List.drop_eq_getElem_cons hlt
   have hrd : rd_L6 l (i : Int) = l[i] := by unfold rd_L6; simp [List.getD, hlt]
   obtain ⟨ad2, A0, c0, hA, hx0, hl0, hC0⟩ := zcJ HC.out (i : Int) hi0 hii
   cases hA
   rw [hrd] at hx0 hl0 hC0
   rw [Int.toNat_natCast] at hx0
   have hy0 := (HW.out.cell (World.block_lt_of_cell? w _ hx0)).trans hx0
   have hp := HP.out
   rw [hdr, idxP] at hp
   generalize l[i] = x at *
   have HN := Aside0.mk (HF.out A0 c0 x wr HW.out (Kd.C_below hC0 HW.out) hl0)
   rw [HPE.out x] at HN
   clear hx0 hC0
   cases hh : p x with
   | true =>
    rw [hh] at HN
    rw [if_pos hh] at hp
    clear hh
    go_wp2_with (go_at_call 121; refine HN.out.mono ?_; rintro e w1 ⟨rfl, hb1⟩)
    go_ret
    exact ⟨by first | rfl | (rw [hp]; rfl), below_step HW.out hb1⟩
   | false =>
    rw [hh] at HN
    rw [if_neg (by rw [hh]; decide)] at hp
    clear hh
    go_wp2_with (go_at_call 121; refine HN.out.mono ?_; rintro e w1 ⟨rfl, hb1⟩)
    go_roundg gk
    case measure => omega
    case rel => exact ⟨i + 1, by omega, by first | rfl | (simp; done) | (have := HC.out.2.1; simp; unfold wrap64; omega), ⟨below_step HW.out hb1⟩, ⟨hp⟩⟩
end Go.Proofs.YthgfdnffnbclpaaGreatDoor.PAll
