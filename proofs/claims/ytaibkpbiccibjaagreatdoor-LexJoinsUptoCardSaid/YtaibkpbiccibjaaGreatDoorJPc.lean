/- LexJoins without Go and memory, second part: for tokens of a bounded bulk the law answers true; and the walk with it. -/
import Derived.Test.YtaibkpbiccibjaaGreatDoorJPb
import Derived.Test.YtaibkpbiccibjaaGreatDoorJL
set_option linter.unusedVariables false
namespace Go.Proofs.YtaibkpbiccibjaaGreatDoor.PAll
open Go.RowKit Go.Proofs.YtaibkpbiccibjaaGreatDoorW.PrintWords Go.Proofs.YtaibkpbiccibjaaGreatDoorW.PrintLast Go.Proofs.YtaibkpbiccibjaaGreatDoorW.PrintMore

theorem txt_len (x : S33) : (txtB x).data.toList.length ≤ 2 * x.f1.size + 2 := by
  rw [txt_written]
  unfold Lx.written pr
  have e : x.f1.data.toList.length = x.f1.size := by simp
  split
  · have := PQ.qt_len2 x.f1.data.toList
    simp
    omega
  · show x.f1.data.toList.length ≤ _
    omega
theorem joinP_len : ∀ (l : List S33) (g : Bool), (joinP g l).length ≤ 3 * bulkT l
  | [], _ => by simp [joinP]
  | x :: r, g => by
    have ih := joinP_len r (glueP x)
    have ht := txt_len x
    rw [joinP, List.length_append, List.length_append, bulkT]
    have : (if sepP g x = true then [32] else ([] : List UInt8)).length ≤ 1 := by split <;> simp
    omega
theorem bulk_len : ∀ l : List S33, 4 * l.length ≤ bulkT l
  | [] => Nat.le_refl _
  | x :: r => by
    have := bulk_len r
    rw [List.length_cons, bulkT]
    omega
theorem bulk_mem : ∀ l : List S33, ∀ x ∈ l, x.f1.size ≤ bulkT l
  | [], x, h => by cases h
  | y :: r, x, h => by
    rw [bulkT]
    rcases List.mem_cons.1 h with rfl | h
    · omega
    · have := bulk_mem r x h
      omega

theorem LexJoins (l : List S33) (hb : bulkT l ≤ 1048576) : jointerlaw02_LexJoins.f 140737490000001 l = some true := by
  have hl := bulk_len l
  have hm := bulk_mem l
  have hj := joinP_len l true
  unfold jointerlaw02_LexJoins.f
  rw [ref_join l (by omega) (fun x hx => by have := hm x hx; omega) _ (by omega), Option.bind_some, lex_Join.f, if_pos ⟨by omega, by omega⟩, Option.bind_some, if_pos rfl]
  rw [show ((resP l).2 != (resP l).2) = false by simp]
  rw [show (140737490000001 : Nat) = 140737490000000 + 1 from rfl, jointerlaw02_LexJoins.j0, if_neg (by decide)]
  generalize hK : (140737490000000 : Nat) = K
  by_cases ha : l.all okP = true
  · have hok : ∀ x ∈ l, Lx.tokOk isKw marksL (pr x) = true := fun x hx => valid_ok x (List.all_eq_true.1 ha x hx)
    have hJ := join_same l true none hok rfl
    by_cases hbig : 4000 < (joinP true l).length
    · have hres : resP l = (⟨#[]⟩, 2) := by unfold resP; rw [if_pos ha, if_pos hbig]
      rw [hres]
      simp only
      rw [if_neg (by decide), awake_true, Option.bind_some]
    · have hres : resP l = (⟨(joinP true l).toArray⟩, 0) := by unfold resP; rw [if_pos ha, if_neg hbig]
      rw [hres]
      simp only
      rw [if_pos trivial]
      have hokp : ∀ x ∈ l.map pr, Lx.tokOk isKw marksL x = true := by
        intro x hx
        obtain ⟨y, hy, rfl⟩ := List.mem_map.1 hx
        exact hok y hy
      rw [hJ] at hbig ⊢
      obtain ⟨ts2, h1, h2⟩ := Lx.toks_join kw_ok marks_ne marks_ok (l.map pr) none ((Lx.joinF none (l.map pr)).length + 1) 0 hokp (by omega)
      have hR2 : tokensR ⟨(Lx.joinF none (l.map pr)).toArray⟩ = (ts2.map toS, 0, 0) := by
        have hz : (⟨(Lx.joinF none (l.map pr)).toArray⟩ : ByteArray).size = (Lx.joinF none (l.map pr)).length := by
          show (Lx.joinF none (l.map pr)).toArray.size = _
          simp
        unfold tokensR
        rw [hz, if_neg hbig]
        show (match Lx.toks isKw marksL _ 0 (Lx.joinF none (l.map pr)) with | .bad p e => ([], (p : Int), e) | .good ts => (ts.map toS, 0, 0)) = _
        rw [h1]
      have hpm : (ts2.map toS).map pr = l.map pr := by rw [← h2, List.map_map]; rfl
      have hl2 : (ts2.map toS).length = l.length := by have := congrArg List.length hpm; simpa using this
      rw [lex_Tokens.f, Option.bind_some, hR2]
      simp only
      rw [if_pos trivial, if_pos trivial]
      have hst : jointerref02_SameTokens.f K l (ts2.map toS) = some true := by
        have e1 := SameTokens_l0 l (ts2.map toS) hl2 ?_ (by omega) l.length 0 K (by omega) (by omega)
        · unfold jointerref02_SameTokens.f
          rw [if_pos (by rw [hl2])]
          exact e1
        · intro i hi hj
          have ea : Option.map pr (ts2.map toS)[i]? = Option.map pr l[i]? := by rw [← List.getElem?_map, ← List.getElem?_map, hpm]
          rw [List.getElem?_eq_getElem hj, List.getElem?_eq_getElem hi] at ea
          have eb := Option.some.inj (show some (pr (ts2.map toS)[i]) = some (pr l[i]) from ea)
          exact ⟨(congrArg Prod.fst eb).symm, by rw [Lib.toList_data, Lib.toList_data]; exact (congrArg Prod.snd eb).symm⟩
      rw [hst, Option.bind_some, if_pos rfl, awake_true, Option.bind_some]
  · have hres : resP l = (⟨#[]⟩, 1) := by unfold resP; rw [if_neg ha]
    rw [hres]
    simp only
    rw [if_neg (by decide), awake_true, Option.bind_some]

theorem LexJoins_walk (A0 : Option Addr) (c0 : Nat) (l0 : List S33) (w : World) (hb : bulkT l0 ≤ 1048576) (hr0 : Kd.C k33 w A0 l0.length l0) (hc0 : l0.length ≤ c0) (hL : LaidL w) (hM : MaxL w) :
    Calls Tryz.prog 3 #[.slice A0 l0.length c0] w fun e w' => e = .returned (.bool true) ∧ Below w.heap.size w w' :=
  jointerlaw02_LexJoins.calls 140737490000001 A0 c0 l0 true w hr0 hc0 rfl (LexJoins l0 hb) hL hM
end Go.Proofs.YtaibkpbiccibjaaGreatDoor.PAll
