import Derived.Test.YthgfdnffnbclpaaGreatDoorXI04
import Derived.Deep.Upon
import Derived.Deep.RegionHeld3
set_option linter.unusedVariables false
set_option linter.unusedSimpArgs false
namespace Go.Proofs.YthgfdnffnbclpaaGreatDoor.PAll
open Go.RowKit Go.Proofs.YthgfdnffnbclpaaGreatDoorW.PrintWords Go.Proofs.YthgfdnffnbclpaaGreatDoorW.PrintLast Go.Proofs.YthgfdnffnbclpaaGreatDoorW.PrintMore

instance : DecidableEq S64 := fun x y => decidable_of_iff (x.f0 = y.f0 ∧ x.f1 = y.f1 ∧ x.f2 = y.f2)
  ⟨fun ⟨a, b, c⟩ => by cases x; cases y; cases a; cases b; cases c; rfl, fun h => by cases h; exact ⟨rfl, rfl, rfl⟩⟩

def tupV (t : List S64) : Value := .agg (tupC t).toArray
theorem cellsV_inj {x y : S64} (h : cellsV x = cellsV y) : x = y := by
  unfold cellsV at h
  cases x; cases y
  simp at h
  obtain ⟨rfl, rfl, rfl⟩ := h
  rfl
theorem tupC_inj : ∀ {s t : List S64}, tupC s = tupC t → s = t
  | [], [], _ => rfl
  | [], y :: t, h => by have := congrArg List.length h; rw [tupC_len, tupC_len] at this; simp at this
  | x :: s, [], h => by have := congrArg List.length h; rw [tupC_len, tupC_len] at this; simp at this
  | x :: s, y :: t, h => by
    have e : ∀ (z : S64) (u : List S64), tupC (z :: u) = cellsV z ++ tupC u := fun z u => by simp [tupC]
    rw [e, e] at h
    obtain ⟨h1, h2⟩ := List.append_inj h rfl
    rw [cellsV_inj h1, tupC_inj h2]
theorem mem_tupV (t : List S64) (S : List (List S64)) : tupV t ∈ S.map tupV ↔ t ∈ S := by
  constructor
  · intro h
    obtain ⟨u, hu, e⟩ := List.mem_map.1 h
    unfold tupV at e
    have : tupC u = tupC t := by simpa using e
    rw [← tupC_inj this]; exact hu
  · exact fun h => List.mem_map_of_mem h

/-- No two rows are alike in a key, nor is one alike to what was seen. -/
def keyRowsP (key : List Int) : List (List S64) → List (List S64) → Option Bool
  | [], _ => some true
  | row :: r, S => (pickP row 0 key tup0).bind fun x => if (x.2 && memP x.1 S) = true then some false else keyRowsP key r (if x.2 = true then x.1 :: S else S)
def keysP (rows : List (List S64)) : List (List Int) → Option Bool
  | [] => some true
  | k :: r => (keyRowsP k rows []).bind fun b => if b = true then keysP rows r else some false

theorem pickP_len : ∀ (cols : List Int) (row : List S64) (i : Nat) (t u : List S64) (b : Bool), pickP row i cols t = some (u, b) → u.length = t.length
  | [], _, _, _, _, _, h => by simp [pickP] at h; rw [h.1]
  | c :: r, row, i, t, u, b, h => by
    rw [pickP] at h
    split at h
    · split at h
      · simp at h; rw [← h.1]; simp
      · rw [pickP_len r row _ _ u b h]; simp
    · cases h
theorem pickP_wf : ∀ (cols : List Int) (row : List S64) (i : Nat) (t u : List S64) (b : Bool), pickP row i cols t = some (u, b) → (∀ x ∈ row, wfV x) → (∀ x ∈ t, wfV x) → ∀ x ∈ u, wfV x
  | [], _, _, _, _, _, h, _, ht => by simp [pickP] at h; rw [← h.1]; exact ht
  | c :: r, row, i, t, u, b, h, hr, ht => by
    rw [pickP] at h
    split at h
    · rename_i hc
      have hm : rd_T64 row c ∈ row := by
        unfold rd_T64
        have : c.toNat < row.length := by omega
        rw [List.getD_eq_getElem?_getD, List.getElem?_eq_getElem this]
        exact List.getElem_mem this
      have hset : ∀ x ∈ t.set i (rd_T64 row c), wfV x := by
        intro x hx
        rcases List.mem_or_eq_of_mem_set hx with h1 | h1
        · exact ht x h1
        · rw [h1]; exact hr _ hm
      split at h
      · simp at h; rw [← h.1]; exact hset
      · exact pickP_wf r row _ _ u b h hr hset
    · cases h
theorem tup0_wf : ∀ x ∈ tup0, wfV x := by
  intro x hx
  unfold tup0 at hx
  rw [List.eq_of_mem_replicate hx]
  exact ⟨by decide, by decide, by decide⟩

def zObj : Obj := .cells #[Value.int IntKind.u8 0, Value.int IntKind.i64 0, Value.string ⟨#[]⟩, Value.int IntKind.u8 0, Value.int IntKind.i64 0, Value.string ⟨#[]⟩, Value.int IntKind.u8 0, Value.int IntKind.i64 0, Value.string ⟨#[]⟩, Value.int IntKind.u8 0, Value.int IntKind.i64 0, Value.string ⟨#[]⟩, Value.int IntKind.u8 0, Value.int IntKind.i64 0, Value.string ⟨#[]⟩, Value.int IntKind.u8 0, Value.int IntKind.i64 0, Value.string ⟨#[]⟩, Value.int IntKind.u8 0, Value.int IntKind.i64 0, Value.string ⟨#[]⟩, Value.int IntKind.u8 0, Value.int IntKind.i64 0, Value.string ⟨#[]⟩] 170
theorem zObj_TB (w1 : World) : TB (w1.alloc zObj) w1.heap.size tup0 := by
  refine ⟨World.rowIs_alloc w1 (tupC tup0).toArray 170 _ (fun j hj => ?_), rfl⟩
  unfold tupF
  have : j < (tupC tup0).length := by simpa using hj
  rw [List.getElem?_toArray, List.getElem?_eq_getElem this]
  rfl
theorem TB.put {w : World} {B : Nat} {t u : List S64} (h : TB w B t) (h8 : u.length = 8) : TB (w.setCells B 0 (tupC u)) B u := by
  refine ⟨(Go.rowIs_setCells (tupC u) 0 w _ h.1).congr (fun j hj => ?_), h8⟩
  have hl := tupC_len u
  rw [if_pos (by omega)]
  rfl
/-- The world with a new block that holds the tuple t. -/
def tupW (w1 : World) (t : List S64) : World := (w1.alloc zObj).setCells w1.heap.size 0 (tupC t)
theorem tupW_TB (w1 : World) (t : List S64) (h8 : t.length = 8) : TB (tupW w1 t) w1.heap.size t := (zObj_TB w1).put h8
theorem tupW_heap (w1 : World) (t : List S64) (b : Nat) (hb : b < w1.heap.size) : (tupW w1 t).heap[b]? = w1.heap[b]? := by
  unfold tupW
  rw [World.heap_setCells_other _ _ _ _ (by simp; omega) (by omega)]
  exact Go.Deep.blk_alloc_lt _ _ _ hb
theorem tupW_below {B0 : Nat} {w0 w1 : World} (t : List S64) (h : Below B0 w0 w1) (hB : B0 ≤ w1.heap.size) : Below B0 w0 (tupW w1 t) :=
  Go.below_setCells hB _ _ _ (h.alloc hB _)
theorem zero93 (w : World) : (zeroValue 173).run Tryz.prog w = .ok (.agg #[]) w := by kernel_rfl

set_option maxHeartbeats 4000000 in
set_option maxRecDepth 100000 in
theorem keysHold_walk (a0 : ByteArray) (A1 : Option Addr) (c1 n1 : Nat) (A2 : Option Addr) (c2 : Nat) (keys : List (List Int)) (A3 : Option Addr) (c3 n3 : Nat) (A4 : Option Addr) (c4 n4 : Nat) (A : Option Addr) (c : Nat) (rows : List (List S64)) (r : Bool) (w : World)
    (hK : Kd.C (Kd.slice 3 (Kd.int .i64)) w A2 keys.length keys) (hk2 : keys.length ≤ c2) (hR : Kd.C (Kd.slice 87 k64) w A rows.length rows) (hrc : rows.length ≤ c) (hwf : ∀ row ∈ rows, ∀ x ∈ row, wfV x) (h : keysP rows keys = some r) :
    Calls Tryz.prog 72 #[.agg #[.string a0, .slice A1 n1 c1, .slice A2 keys.length c2, .slice A3 n3 c3, .slice A4 n4 c4], .slice A rows.length c] w fun e w' => e = .returned (.bool r) ∧ Below w.heap.size w w' := by
  have hmm := @run_makeMap Tryz.prog
  have HK := Aside0.mk hK
  have HRW := Aside0.mk hR
  have HWF := Aside0.mk hwf
  have HH := Aside0.mk h
  clear hK hR hwf h
  go_enter Tryz.func72, Tryz.ntmps72
  go_wp2
  generalize hW1 : (w.alloc _) = W1
  have HBL : Aside0 (Below w.heap.size w W1) := ⟨by rw [← hW1]; exact (Below.refl _ _).alloc (Nat.le_refl _) _⟩
  clear hW1
  go_loopg [17] keys.length (fun gk v17 wx => ∃ (i : Nat), i + gk = keys.length ∧ v17 = .int .i64 i ∧ Aside0 (Below w.heap.size w wx) ∧ Aside0 (keysP rows (keys.drop i) = some r))
  case atStart => exact ⟨0, by omega, rfl, HBL, HH⟩
  case round =>
    clear HBL HH
    obtain ⟨i, hi, rfl, HW, HP⟩ := hrel
    cases gk with
    | zero =>
      have e : keys.drop i = [] := List.drop_eq_nil_of_le (by omega)
      have hp := HP.out
      rw [e] at hp
      simp only [keysP, Option.some.injEq] at hp
      subst hp
      have hii : ¬ (i : Int) < (keys.length : Int) := by omega
      go_wp2
      go_ret
      exact ⟨by first | rfl | (simp; done), HW.out⟩
    | succ g1 =>
      have hlt : i < keys.length := by omega
      have hii : (i : Int) < (keys.length : Int) := by omega
      have hi0 : (0 : Int) ≤ (i : Int) := by omega
      have hdr : keys.drop i = keys[i] :: keys.drop (i + 1) := List.drop_eq_getElem_cons hlt
      have hrd : rd_L6 keys (i : Int) = keys[i] := by unfold rd_L6; simp [List.getD, hlt]
      obtain ⟨ad2, Ak, ck, hA2, hx2, hck, hCk⟩ := at_L6 HK.out (i : Int) hi0 hii
      cases hA2
      rw [hrd] at hx2 hck hCk
      rw [Int.toNat_natCast] at hx2
      have hr2 := (HW.out.cell (World.block_lt_of_cell? w _ hx2)).trans hx2
      have hp := HP.out
      rw [hdr, keysP] at hp
      have HP2 := Aside0.mk hp
      clear hp HP
      have HCK := Aside0.mk hCk
      clear hCk hx2
      generalize keys[i] = key at *
      go_wp2
      obtain ⟨Bm, hBm⟩ : ∃ b, b = wr.heap.size := ⟨_, rfl⟩
      obtain ⟨W2, hW2⟩ : ∃ W, W = wr.alloc (Obj.map #[] 0) := ⟨_, rfl⟩
      have HS0 : Aside0 (SetM Tryz.prog 170 unitElem W2 Bm []) := ⟨by rw [hW2, hBm]; exact SetM.made wr⟩
      have HB0 : Aside0 (Below w.heap.size w W2) := ⟨by rw [hW2]; exact HW.out.alloc HW.out.size _⟩
      have HZ0 : Aside0 (Bm + 1 ≤ W2.heap.size) := ⟨by rw [hW2, hBm]; simp⟩
      have HBW : Aside0 (w.heap.size ≤ Bm) := ⟨by rw [hBm]; exact HW.out.size⟩
      rw [← hW2, ← hBm]
      clear hBm hW2
      go_loopg [24] rows.length (fun gj v24 wx => ∃ (j : Nat) (S : List (List S64)), j + gj = rows.length ∧ v24 = .int .i64 j ∧ Aside0 (S.length ≤ j) ∧ Aside0 (SetM Tryz.prog 170 unitElem wx Bm (S.map tupV)) ∧ Aside0 (Below w.heap.size w wx) ∧ Aside0 (Bm + 1 ≤ wx.heap.size) ∧
        Aside0 ((keyRowsP key (rows.drop j) S).bind (fun b => if b = true then keysP rows (keys.drop (i + 1)) else some false) = some r))
      case atStart => exact ⟨0, [], by omega, rfl, ⟨Nat.le_refl _⟩, HS0, HB0, HZ0, HP2⟩
      case round =>
        clear HS0 HB0 HZ0 HP2 HW
        obtain ⟨j, S, hj, rfl, HSL, HM, HW, HSZ, HP⟩ := hrel
        cases gk with
        | zero =>
          have e : rows.drop j = [] := List.drop_eq_nil_of_le (by omega)
          have hp := HP.out
          rw [e] at hp
          simp only [keyRowsP, Option.bind_some, if_true] at hp
          have hjj : ¬ (j : Int) < (rows.length : Int) := by omega
          go_wp2
          go_roundg g1
          case measure => omega
          case rel => exact ⟨i + 1, by omega, by first | rfl | (simp; done) | (have := HK.out.2.1; simp; unfold wrap64; omega), HW, ⟨hp⟩⟩
        | succ g2 =>
          have hjlt : j < rows.length := by omega
          have hjj : (j : Int) < (rows.length : Int) := by omega
          have hj0 : (0 : Int) ≤ (j : Int) := by omega
          have hdrj : rows.drop j = rows[j] :: rows.drop (j + 1) := List.drop_eq_getElem_cons hjlt
          have hrdj : rd_L12 rows (j : Int) = rows[j] := by unfold rd_L12; simp [List.getD, hjlt]
          obtain ⟨adr, Ar, cr, hAr, hxr, hcr, hCr⟩ := at_L12 HRW.out (j : Int) hj0 hjj
          cases hAr
          rw [hrdj] at hxr hcr hCr
          rw [Int.toNat_natCast] at hxr
          have hr3 := (HW.out.cell (World.block_lt_of_cell? w _ hxr)).trans hxr
          have hwr := HWF.out rows[j] (List.getElem_mem hjlt)
          have hp := HP.out
          rw [hdrj, keyRowsP] at hp
          generalize rows[j] = row at *
          cases hpk : pickP row 0 key tup0 with
          | none => rw [hpk] at hp; simp at hp
          | some x =>
            obtain ⟨t, full⟩ := x
            rw [hpk] at hp
            simp only [Option.bind_some] at hp
            have h8 : t.length = 8 := by rw [pickP_len _ _ _ _ _ _ hpk]; rfl
            have hwt := pickP_wf _ _ _ _ _ _ hpk hwr tup0_wf
            obtain ⟨kl, hkey⟩ := key_tup t h8 hwt
            have hkey' : keyOf Tryz.prog 170 (tupV t) = some kl := hkey
            have HPK := Aside0.mk (pick_walk Ar cr row Ak ck key t full wr (Kd.C_below hCr HW.out) hcr (Kd.C_below HCK.out HW.out) hck hpk)
            have HCR := Aside0.mk hCr
            clear hCr hxr hwr hwt hpk
            have hz : (Tryz.prog.info? 170).map (·.size) = some (tupC t).length := by rw [tupC_len, h8]; kernel_rfl
            have hza : (Tryz.prog.info? 170).map (·.size) = some (tupC t).toArray.size := by rw [List.size_toArray]; exact hz
            have hone : (tupC t).toArray.all (·.oneCell') = true := tupC_one t
            have hth : ∀ w1 : World, (w1.alloc zObj).there w1.heap.size 0 (tupC t).toArray.size := fun w1 => (zObj_TB w1).there 0 _ (by rw [List.size_toArray, tupC_len, h8]; omega)
            have hBm : Bm < wr.heap.size := by have := HSZ.out; omega
            have FW : ∀ w1, Below wr.heap.size wr w1 → TB (tupW w1 t) w1.heap.size t ∧ SetM Tryz.prog 170 unitElem (tupW w1 t) Bm (S.map tupV) ∧ Below w.heap.size w (tupW w1 t) ∧ Bm + 1 ≤ (tupW w1 t).heap.size := by
              intro w1 hb1
              have hs1 := hb1.size
              have hbw : Below w.heap.size w w1 := below_step HW.out hb1
              refine ⟨tupW_TB w1 t h8, HM.out.kept ?_, tupW_below t hbw hbw.size, ?_⟩
              · rw [tupW_heap w1 t Bm (by omega)]
                exact hb1.block Bm hBm
              · have := (tupW_TB w1 t h8).1.lt
                omega
            have FL : ∀ W5, SetM Tryz.prog 170 unitElem W5 Bm (S.map tupV) → (Instr.lookup 168 (.map (some Bm)) (tupV t) true).run Tryz.prog W5 = .ok (.tuple #[.agg #[], .bool (memP t S)]) W5 := fun W5 h5 =>
              h5.look_unit key90 Tryz.underlying168 (zero93 _) hkey' _ (by rw [mem_tupV]; exact memP_iff t S)
            have FS : ∀ W6, SetM Tryz.prog 170 unitElem W6 Bm (S.map tupV) → Below w.heap.size w W6 → Bm + 1 ≤ W6.heap.size → ∃ w7, (Instr.mapUpdate 168 (.map (some Bm)) (tupV t) (.agg #[])).run Tryz.prog W6 = .ok () w7 ∧ SetM Tryz.prog 170 unitElem w7 Bm ((t :: S).map tupV) ∧ Below w.heap.size w w7 ∧ Bm + 1 ≤ w7.heap.size := by
              intro W6 h6 hb6 hs6
              obtain ⟨w7, hrun, hset, hturn⟩ := h6.store key90 Tryz.underlying168 (by rw [List.length_map]; have := HSL.out; have := HRW.out.2.1; show S.length < 9223372036854775807; omega) (val := .agg #[]) hkey' unitElem_mk
              have hg := hturn.grown
              exact ⟨w7, hrun, hset, hb6.grown hg hb6.size (fun k hk => by cases hk; exact HBW.out), by have := hg.size; omega⟩
            cases full with
            | true =>
              cases hm : memP t S with
              | true =>
                rw [hm] at hp FL
                simp only [Bool.and_self, if_true, Option.bind_some] at hp
                rw [if_neg (by decide)] at hp
                obtain rfl := Option.some.inj hp
                go_wp2_with (first
                  | (go_at_call 125; refine HPK.out.mono ?_; rintro e w1 ⟨rfl, hb1⟩; obtain ⟨F1, F2, F3, F4⟩ := FW w1 hb1; have hth1 := hth w1)
                  | (refine wpList_store_mid rfl 170 (.tmp 10) _ rfl w1.heap.size 0 (tupC t).toArray rfl rfl hth1 hza hone ?_; change wpList _ _ _ _ _ (tupW w1 t); have F0 := FL _ F2; clear hth1 hb1; generalize tupW w1 t = W5 at *; generalize w1.heap.size = Bt at *)
                  | (refine wpList_load_mid rfl 170 (.tmp 10) rfl Bt 0 rfl (tupC t) _ F1.range Tryz.underlying170 rfl hz ?_)
                  | (at_lookup; refine wpList_look_run _ rfl _ _ _ _ rfl rfl rfl F0 ?_))
                go_ret
                exact ⟨by first | rfl | (simp; done), F3.alloc F3.size _⟩
              | false =>
                rw [hm] at hp FL
                simp only [Bool.and_false, if_true] at hp
                rw [if_neg (by decide)] at hp
                have HP3 := Aside0.mk hp
                clear hp
                go_wp2_with (first
                  | (go_at_call 125; refine HPK.out.mono ?_; rintro e w1 ⟨rfl, hb1⟩; obtain ⟨F1, F2, F3, F4⟩ := FW w1 hb1; have hth1 := hth w1)
                  | (refine wpList_store_mid rfl 170 (.tmp 10) _ rfl w1.heap.size 0 (tupC t).toArray rfl rfl hth1 hza hone ?_; change wpList _ _ _ _ _ (tupW w1 t); have F0 := FL _ F2; clear hth1 hb1; generalize tupW w1 t = W5 at *; generalize w1.heap.size = Bt at *)
                  | (refine wpList_load_mid rfl 170 (.tmp 10) rfl Bt 0 rfl (tupC t) _ F1.range Tryz.underlying170 rfl hz ?_)
                  | (at_lookup; refine wpList_look_run _ rfl _ _ _ _ rfl rfl rfl F0 ?_)
                  | (refine wpList_load_mid rfl 170 (.tmp 10) rfl Bt 0 rfl (tupC t) _ (TB.range ⟨F1.1.alloc _, F1.2⟩) Tryz.underlying170 rfl hz ?_)
                  | (at_mapUpdate; obtain ⟨w7, hrun, G2, G3, G4⟩ := FS _ (F2.kept (Go.Deep.blk_alloc_lt _ _ _ (by omega))) (F3.alloc F3.size _) (by simp; omega); refine wpList_store_run _ rfl _ _ _ _ rfl rfl rfl rfl hrun ?_))
                go_roundg g2
                case measure => omega
                case rel => exact ⟨j + 1, t :: S, by omega, by first | rfl | (simp; done) | (have := HRW.out.2.1; simp; unfold wrap64; omega), ⟨by rw [List.length_cons]; have := HSL.out; omega⟩, ⟨G2⟩, ⟨G3⟩, ⟨G4⟩, HP3⟩
            | false =>
              cases hm : memP t S with
              | true =>
                rw [hm] at FL
                simp only [Bool.false_and] at hp
                rw [if_neg (by decide), if_neg (by decide)] at hp
                have HP3 := Aside0.mk hp
                clear hp
                go_wp2_with (first
                  | (go_at_call 125; refine HPK.out.mono ?_; rintro e w1 ⟨rfl, hb1⟩; obtain ⟨F1, F2, F3, F4⟩ := FW w1 hb1; have hth1 := hth w1)
                  | (refine wpList_store_mid rfl 170 (.tmp 10) _ rfl w1.heap.size 0 (tupC t).toArray rfl rfl hth1 hza hone ?_; change wpList _ _ _ _ _ (tupW w1 t); have F0 := FL _ F2; clear hth1 hb1; generalize tupW w1 t = W5 at *; generalize w1.heap.size = Bt at *)
                  | (refine wpList_load_mid rfl 170 (.tmp 10) rfl Bt 0 rfl (tupC t) _ F1.range Tryz.underlying170 rfl hz ?_)
                  | (at_lookup; refine wpList_look_run _ rfl _ _ _ _ rfl rfl rfl F0 ?_))
                go_roundg g2
                case measure => omega
                case rel => exact ⟨j + 1, S, by omega, by first | rfl | (simp; done) | (have := HRW.out.2.1; simp; unfold wrap64; omega), ⟨by have := HSL.out; omega⟩, ⟨F2.kept (Go.Deep.blk_alloc_lt _ _ _ (by omega))⟩, ⟨F3.alloc F3.size _⟩, ⟨by simp; omega⟩, HP3⟩
              | false =>
                rw [hm] at FL
                simp only [Bool.false_and] at hp
                rw [if_neg (by decide), if_neg (by decide)] at hp
                have HP3 := Aside0.mk hp
                clear hp
                go_wp2_with (first
                  | (go_at_call 125; refine HPK.out.mono ?_; rintro e w1 ⟨rfl, hb1⟩; obtain ⟨F1, F2, F3, F4⟩ := FW w1 hb1; have hth1 := hth w1)
                  | (refine wpList_store_mid rfl 170 (.tmp 10) _ rfl w1.heap.size 0 (tupC t).toArray rfl rfl hth1 hza hone ?_; change wpList _ _ _ _ _ (tupW w1 t); have F0 := FL _ F2; clear hth1 hb1; generalize tupW w1 t = W5 at *; generalize w1.heap.size = Bt at *)
                  | (refine wpList_load_mid rfl 170 (.tmp 10) rfl Bt 0 rfl (tupC t) _ F1.range Tryz.underlying170 rfl hz ?_)
                  | (at_lookup; refine wpList_look_run _ rfl _ _ _ _ rfl rfl rfl F0 ?_))
                go_roundg g2
                case measure => omega
                case rel => exact ⟨j + 1, S, by omega, by first | rfl | (simp; done) | (have := HRW.out.2.1; simp; unfold wrap64; omega), ⟨by have := HSL.out; omega⟩, ⟨F2.kept (Go.Deep.blk_alloc_lt _ _ _ (by omega))⟩, ⟨F3.alloc F3.size _⟩, ⟨by simp; omega⟩, HP3⟩
end Go.Proofs.YthgfdnffnbclpaaGreatDoor.PAll
namespace Go.Proofs.YthgfdnffnbclpaaGreatDoor.PAll
open Go.RowKit Go.Proofs.YthgfdnffnbclpaaGreatDoorW.PrintWords Go.Proofs.YthgfdnffnbclpaaGreatDoorW.PrintLast Go.Proofs.YthgfdnffnbclpaaGreatDoorW.PrintMore

theorem cell_al {W : World} {a : Addr} {v : Value} (o : Obj) (h : W.cell? a = some v) : (W.alloc o).cell? a = some v :=
  (((Below.refl W.heap.size W).alloc (Nat.le_refl _) o).cell (World.block_lt_of_cell? W a h)).trans h
/-- The tuples of a key's columns. -/
def knownP (key : List Int) : List (List S64) → List (List S64) → Option (List (List S64))
  | [], S => some S
  | row :: r, S => (pickP row 0 key tup0).bind fun x => knownP key r (x.1 :: S)
def allKnownP (cols : List Int) (S : List (List S64)) : List (List S64) → Option Bool
  | [] => some true
  | row :: r => (pickP row 0 cols tup0).bind fun x => if (x.2 && !memP x.1 S) = true then some false else allKnownP cols S r
def refP (s : List S49) (d : List (List (List S64))) (n : Int) (r : S75) : Option Bool :=
  if 0 ≤ r.f1 ∧ r.f1 < (s.length : Int) ∧ r.f1 < (d.length : Int) ∧ 0 ≤ r.f2 ∧ r.f2 < ((rd_T49 s r.f1).f2.length : Int) then
    (knownP (rd_L6 (rd_T49 s r.f1).f2 r.f2) (rd_L13 d r.f1) []).bind fun S => allKnownP r.f0 S (rd_L13 d n)
  else none
def refsP (s : List S49) (d : List (List (List S64))) (n : Int) : List S75 → Option Bool
  | [] => some true
  | r :: q => (refP s d n r).bind fun b => if b = true then refsP s d n q else some false

set_option maxHeartbeats 4000000 in
set_option maxRecDepth 100000 in
theorem refsHold_walk (A : Option Addr) (c : Nat) (s : List S49) (A2 : Option Addr) (c2 : Nat) (d : List (List (List S64))) (n : Int) (r : Bool) (w : World)
    (hS : Kd.C k49 w A s.length s) (hsc : s.length ≤ c) (hD : Kd.C (Kd.slice 89 (Kd.slice 87 k64)) w A2 d.length d) (hdc : d.length ≤ c2) (hwf : ∀ rows ∈ d, ∀ row ∈ rows, ∀ x ∈ row, wfV x)
    (hn0 : 0 ≤ n) (hn1 : n < (s.length : Int)) (hn2 : n < (d.length : Int)) (h : refsP s d n (rd_T49 s n).f3 = some r) :
    Calls Tryz.prog 73 #[.slice A s.length c, .slice A2 d.length c2, .int .i64 n] w fun e w' => e = .returned (.bool r) ∧ Below w.heap.size w w' := by
  have hmm := @run_makeMap Tryz.prog
  have HS := Aside0.mk hS
  have HD := Aside0.mk hD
  have HWF := Aside0.mk hwf
  have HH := Aside0.mk h
  obtain ⟨ad, A1', c1', A2', c2', A3, c3, A4', c4', hA, hx0, hx1, hx2, hx3, hx4, _, _, _, _, hl3, hC3, _, _⟩ := at_T49 hS n hn0 hn1
  cases hA
  have HC3 := Aside0.mk hC3
  have HB0 := Aside0.mk (Below.refl w.heap.size w)
  clear hS hD hwf h hC3 hx0 hx1 hx2 hx4
  generalize (rd_T49 s n).f3 = refs at *
  go_enter Tryz.func73, Tryz.ntmps73
  go_wp2
  go_loopg [24] refs.length (fun gk v24 wx => ∃ (i : Nat), i + gk = refs.length ∧ v24 = .int .i64 i ∧ Aside0 (Below w.heap.size w wx) ∧ Aside0 (refsP s d n (refs.drop i) = some r))
  case atStart => exact ⟨0, by omega, rfl, HB0, HH⟩
  case round =>
    clear HB0 HH hx3
    obtain ⟨i, hi, rfl, HW, HP⟩ := hrel
    cases gk with
    | zero =>
      have e : refs.drop i = [] := List.drop_eq_nil_of_le (by omega)
      have hp := HP.out
      rw [e] at hp
      simp only [refsP, Option.some.injEq] at hp
      subst hp
      have hii : ¬ (i : Int) < (refs.length : Int) := by omega
      go_wp2
      go_ret
      exact ⟨by first | rfl | (simp; done), HW.out⟩
    | succ g1 =>
      have hlt : i < refs.length := by omega
      have hii : (i : Int) < (refs.length : Int) := by omega
      have hi0 : (0 : Int) ≤ (i : Int) := by omega
      have hdr : refs.drop i = refs[i] :: refs.drop (i + 1) := List.drop_eq_getElem_cons hlt
      have hrd : rd_T75 refs (i : Int) = refs[i] := by unfold rd_T75; simp [List.getD, hlt]
      obtain ⟨ad2, Ac, cc, hA2, hy0, hy1, hy2, hcc, hCc⟩ := at_T75 HC3.out (i : Int) hi0 hii
      cases hA2
      rw [hrd] at hy0 hy1 hy2 hcc hCc
      rw [Int.toNat_natCast] at hy0 hy1 hy2
      have hz0 := (HW.out.cell (World.block_lt_of_cell? w _ hy0)).trans hy0
      have hz1 := (HW.out.cell (World.block_lt_of_cell? w _ hy1)).trans hy1
      have hz2 := (HW.out.cell (World.block_lt_of_cell? w _ hy2)).trans hy2
      have hp := HP.out
      rw [hdr, refsP, refP] at hp
      have HCC := Aside0.mk hCc
      clear hCc hy0 hy1 hy2 HP
      generalize refs[i] = rf at *
      by_cases hin : 0 ≤ rf.f1 ∧ rf.f1 < (s.length : Int) ∧ rf.f1 < (d.length : Int) ∧ 0 ≤ rf.f2 ∧ rf.f2 < ((rd_T49 s rf.f1).f2.length : Int)
      case neg => rw [if_neg hin] at hp; simp at hp
      rw [if_pos hin] at hp
      have HP := Aside0.mk hp
      clear hp
      obtain ⟨hT0, hT1, hT2, hK0, hK1⟩ := hin
      obtain ⟨adT, _, _, B2, b2, _, _, _, _, hAT, _, _, hv2, _, _, _, _, hb2, hCB2, _, _, _, _⟩ := at_T49 HS.out rf.f1 hT0 hT1
      cases hAT
      obtain ⟨adK, Ak, ck, hAK, hvk, hck, hCk⟩ := at_L6 hCB2 rf.f2 hK0 hK1
      cases hAK
      obtain ⟨adD, Ar, cr, hAD, hvd, hcr, hCr⟩ := at_L13 HD.out rf.f1 hT0 hT2
      cases hAD
      have HCK := Aside0.mk hCk
      have HCR := Aside0.mk hCr
      have HVD := Aside0.mk hvd
      have HV2 := Aside0.mk hv2
      have HVK := Aside0.mk hvk
      have hvd' := (HW.out.cell (World.block_lt_of_cell? w _ hvd)).trans hvd
      have hvd2 : ∀ o1 o2 : Obj, ((wr.alloc o1).alloc o2).cell? (adD.add rf.f1.toNat) = some (.slice Ar (rd_L13 d rf.f1).length cr) := fun o1 o2 => cell_al o2 (cell_al o1 hvd')
      clear hCB2 hCk hCr hvd hv2 hvk
      go_wp2
      obtain ⟨Br, hBr⟩ : ∃ b, b = wr.heap.size := ⟨_, rfl⟩
      obtain ⟨W2, hW2⟩ : ∃ W, W = ((wr.alloc (Obj.cells #[Value.slice Ac rf.f0.length cc, Value.int IntKind.i64 rf.f1, Value.int IntKind.i64 rf.f2] 75)).alloc (Obj.map #[] 0)) := ⟨_, rfl⟩
      have HM0 : Aside0 (SetM Tryz.prog 170 boolR W2 (Br + 1) []) := ⟨by rw [hW2, hBr]; have := SetM.made (P := Tryz.prog) (k := 170) (R := boolR) (wr.alloc (Obj.cells #[Value.slice Ac rf.f0.length cc, Value.int IntKind.i64 rf.f1, Value.int IntKind.i64 rf.f2] 75)); simpa using this⟩
      have HB0 : Aside0 (Below w.heap.size w W2) := ⟨by rw [hW2]; exact (HW.out.alloc HW.out.size _).alloc (by have := HW.out.size; simp; omega) _⟩
      have HX0 : Aside0 (W2.heap[Br]? = some (.cells #[Value.slice Ac rf.f0.length cc, Value.int IntKind.i64 rf.f1, Value.int IntKind.i64 rf.f2] 75 (0, 0))) := ⟨by rw [hW2, hBr, Go.Deep.blk_alloc_lt _ _ _ (by simp)]; exact Go.Deep.blk_alloc_new wr _⟩
      have HZ0 : Aside0 (Br + 2 ≤ W2.heap.size) := ⟨by rw [hW2, hBr]; simp⟩
      have HBR : Aside0 (w.heap.size ≤ Br) := ⟨by rw [hBr]; exact HW.out.size⟩
      rw [← hW2, ← hBr]
      clear hBr hW2 hvd2 hvd' hz0 hz1 hz2
      go_loopg [35] (rd_L13 d rf.f1).length (fun gj v35 wx => ∃ (j : Nat) (S : List (List S64)), j + gj = (rd_L13 d rf.f1).length ∧ v35 = .int .i64 j ∧ Aside0 (S.length ≤ j) ∧ Aside0 (SetM Tryz.prog 170 boolR wx (Br + 1) (S.map tupV)) ∧ Aside0 (Below w.heap.size w wx) ∧ Aside0 (Br + 2 ≤ wx.heap.size) ∧
        Aside0 (wx.heap[Br]? = some (.cells #[Value.slice Ac rf.f0.length cc, Value.int IntKind.i64 rf.f1, Value.int IntKind.i64 rf.f2] 75 (0, 0))) ∧
        Aside0 (((knownP (rd_L6 (rd_T49 s rf.f1).f2 rf.f2) ((rd_L13 d rf.f1).drop j) S).bind fun S => allKnownP rf.f0 S (rd_L13 d n)).bind (fun b => if b = true then refsP s d n (refs.drop (i + 1)) else some false) = some r))
      case atStart => exact ⟨0, [], by omega, rfl, ⟨Nat.le_refl _⟩, HM0, HB0, HZ0, HX0, HP⟩
      case round =>
        clear HM0 HB0 HZ0 HX0 HP HW
        obtain ⟨j, S, hj, rfl, HSL, HM, HW, HSZ, HX, HP⟩ := hrel
        cases gk with
        | zero =>
          have e : (rd_L13 d rf.f1).drop j = [] := List.drop_eq_nil_of_le (by omega)
          have hp := HP.out
          rw [e] at hp
          simp only [knownP, Option.bind_some] at hp
          have HPB := Aside0.mk hp
          clear hp HP
          have hjj : ¬ (j : Int) < ((rd_L13 d rf.f1).length : Int) := by omega
          obtain ⟨adN, AN, cN, hAN, hvn, hcN, hCN⟩ := at_L13 HD.out n hn0 hn2
          cases hAN
          have HCN := Aside0.mk hCN
          have hvn' := (HW.out.cell (World.block_lt_of_cell? w _ hvn)).trans hvn
          clear hCN hvn
          have hrm : (rd_L13 d n) ∈ d := by
            unfold rd_L13
            have : n.toNat < d.length := by omega
            rw [List.getD_eq_getElem?_getD, List.getElem?_eq_getElem this]
            exact List.getElem_mem this
          have HWN := Aside0.mk (HWF.out _ hrm)
          clear hrm
          generalize hrN : rd_L13 d n = rowsN at *
          go_wp2
          go_loopg [62] rowsN.length (fun gj v62 wx => ∃ (q : Nat), q + gj = rowsN.length ∧ v62 = .int .i64 q ∧ Aside0 (SetM Tryz.prog 170 boolR wx (Br + 1) (S.map tupV)) ∧ Aside0 (Below w.heap.size w wx) ∧ Aside0 (Br + 2 ≤ wx.heap.size) ∧
            Aside0 (wx.heap[Br]? = some (.cells #[Value.slice Ac rf.f0.length cc, Value.int IntKind.i64 rf.f1, Value.int IntKind.i64 rf.f2] 75 (0, 0))) ∧
            Aside0 ((allKnownP rf.f0 S (rowsN.drop q)).bind (fun b => if b = true then refsP s d n (refs.drop (i + 1)) else some false) = some r))
          case atStart => exact ⟨0, by omega, rfl, HM, HW, HSZ, HX, HPB⟩
          case round =>
            clear HM HW HSZ HX HPB hvn'
            obtain ⟨q, hq, rfl, HM, HW, HSZ, HX, HP⟩ := hrel
            cases gk with
            | zero =>
              have e : rowsN.drop q = [] := List.drop_eq_nil_of_le (by omega)
              have hp := HP.out
              rw [e] at hp
              simp only [allKnownP, Option.bind_some, if_true] at hp
              have hjj : ¬ (q : Int) < (rowsN.length : Int) := by omega
              go_wp2
              go_roundg g1
              case measure => omega
              case rel => exact ⟨i + 1, by omega, by first | rfl | (simp; done) | (have := HC3.out.2.1; simp; unfold wrap64; omega), HW, ⟨hp⟩⟩
            | succ g2 =>
              have hjlt : q < rowsN.length := by omega
              have hjj : (q : Int) < (rowsN.length : Int) := by omega
              have hj0 : (0 : Int) ≤ (q : Int) := by omega
              have hdrj : rowsN.drop q = rowsN[q] :: rowsN.drop (q + 1) := List.drop_eq_getElem_cons hjlt
              have hrdj : rd_L12 rowsN (q : Int) = rowsN[q] := by unfold rd_L12; simp [List.getD, hjlt]
              obtain ⟨adr, Aw, cw, hAw, hxr, hcw, hCw⟩ := at_L12 HCN.out (q : Int) hj0 hjj
              cases hAw
              rw [hrdj] at hxr hcw hCw
              rw [Int.toNat_natCast] at hxr
              have hr3 := (HW.out.cell (World.block_lt_of_cell? w _ hxr)).trans hxr
              have hwr := HWN.out _ (List.getElem_mem hjlt)
              have hp := HP.out
              rw [hdrj, allKnownP] at hp
              generalize rowsN[q] = row at *
              cases hpk : pickP row 0 rf.f0 tup0 with
              | none => rw [hpk] at hp; simp at hp
              | some x =>
                obtain ⟨t, full⟩ := x
                rw [hpk] at hp
                simp only [Option.bind_some] at hp
                have h8 : t.length = 8 := by rw [pickP_len _ _ _ _ _ _ hpk]; rfl
                have hwt := pickP_wf _ _ _ _ _ _ hpk hwr tup0_wf
                obtain ⟨kl, hkey⟩ := key_tup t h8 hwt
                have hkey' : keyOf Tryz.prog 170 (tupV t) = some kl := hkey
                have HPK := Aside0.mk (pick_walk Aw cw row Ac cc rf.f0 t full wr (Kd.C_below hCw HW.out) hcw (Kd.C_below HCC.out HW.out) hcc hpk)
                have hb0 : wr.cell? ⟨Br, 0, none⟩ = some (.slice Ac rf.f0.length cc) := (blk_cell HX.out 0).trans rfl
                have hz : (Tryz.prog.info? 170).map (·.size) = some (tupC t).length := by rw [tupC_len, h8]; kernel_rfl
                have hza : (Tryz.prog.info? 170).map (·.size) = some (tupC t).toArray.size := by rw [List.size_toArray]; exact hz
                have hone : (tupC t).toArray.all (·.oneCell') = true := tupC_one t
                have hth : ∀ w1 : World, (w1.alloc zObj).there w1.heap.size 0 (tupC t).toArray.size := fun w1 => (zObj_TB w1).there 0 _ (by rw [List.size_toArray, tupC_len, h8]; omega)
                have FW : ∀ w1, Below wr.heap.size wr w1 → TB (tupW w1 t) w1.heap.size t ∧ SetM Tryz.prog 170 boolR (tupW w1 t) (Br + 1) (S.map tupV) ∧ Below w.heap.size w (tupW w1 t) ∧ Br + 2 ≤ (tupW w1 t).heap.size ∧
                    (tupW w1 t).heap[Br]? = some (.cells #[Value.slice Ac rf.f0.length cc, Value.int IntKind.i64 rf.f1, Value.int IntKind.i64 rf.f2] 75 (0, 0)) := by
                  intro w1 hb1
                  have hs1 := hb1.size
                  have hs2 := HSZ.out
                  have hbw : Below w.heap.size w w1 := below_step HW.out hb1
                  refine ⟨tupW_TB w1 t h8, HM.out.kept ?_, tupW_below t hbw hbw.size, ?_, ?_⟩
                  · rw [tupW_heap w1 t _ (by omega)]
                    exact hb1.block _ (by omega)
                  · have := (tupW_TB w1 t h8).1.lt
                    omega
                  · rw [tupW_heap w1 t _ (by omega)]
                    exact (hb1.block _ (by omega)).trans HX.out
                have FL : ∀ W5, SetM Tryz.prog 170 boolR W5 (Br + 1) (S.map tupV) → (Instr.lookup 175 (.map (some (Br + 1))) (tupV t) false).run Tryz.prog W5 = .ok (.bool (memP t S)) W5 := fun W5 h5 =>
                  h5.look_bool key90 Tryz.underlying175 (zero4 _) hkey' _ (by rw [mem_tupV]; exact memP_iff t S)
                clear hkey hwt hwr hxr hpk
                cases full with
                | true =>
                  cases hm : memP t S with
                  | true =>
                    rw [hm] at hp FL
                    simp only [Bool.not_true, Bool.and_false] at hp
                    rw [if_neg (by decide)] at hp
                    have HP3 := Aside0.mk hp
                    clear hp
                    go_wp2_with (first
                      | (go_at_call 125; refine HPK.out.mono ?_; rintro e w1 ⟨rfl, hb1⟩; obtain ⟨F1, F2, F3, F4, F5⟩ := FW w1 hb1; have hth1 := hth w1)
                      | (refine wpList_store_mid rfl 170 (.tmp 16) _ rfl w1.heap.size 0 (tupC t).toArray rfl rfl hth1 hza hone ?_; change wpList _ _ _ _ _ (tupW w1 t); have F0 := FL _ F2; clear hth1 hb1; generalize tupW w1 t = W5 at *; generalize w1.heap.size = Bt at *)
                      | (refine gate_dst (N := 76) rfl ?_; refine gate_guard (by rfl) ?_; dsimp only; refine wpList_load_mid rfl 170 (.tmp 16) rfl Bt 0 rfl (tupC t) _ F1.range Tryz.underlying170 rfl hz ?_)
                      | (refine gate_dst (N := 77) rfl ?_; refine gate_guard (by rfl) ?_; dsimp only; refine wpList_look_run _ rfl _ _ _ _ rfl rfl rfl F0 ?_))
                    go_roundg g2
                    case measure => omega
                    case rel => exact ⟨q + 1, by omega, by first | rfl | (simp; done) | (have := HCN.out.2.1; simp; unfold wrap64; omega), ⟨F2⟩, ⟨F3⟩, ⟨F4⟩, ⟨F5⟩, HP3⟩
                  | false =>
                    rw [hm] at hp FL
                    simp only [Bool.not_false, Bool.and_self, if_true, Option.bind_some] at hp
                    rw [if_neg (by decide)] at hp
                    obtain rfl := Option.some.inj hp
                    go_wp2_with (first
                      | (go_at_call 125; refine HPK.out.mono ?_; rintro e w1 ⟨rfl, hb1⟩; obtain ⟨F1, F2, F3, F4, F5⟩ := FW w1 hb1; have hth1 := hth w1)
                      | (refine wpList_store_mid rfl 170 (.tmp 16) _ rfl w1.heap.size 0 (tupC t).toArray rfl rfl hth1 hza hone ?_; change wpList _ _ _ _ _ (tupW w1 t); have F0 := FL _ F2; clear hth1 hb1; generalize tupW w1 t = W5 at *; generalize w1.heap.size = Bt at *)
                      | (refine gate_dst (N := 76) rfl ?_; refine gate_guard (by rfl) ?_; dsimp only; refine wpList_load_mid rfl 170 (.tmp 16) rfl Bt 0 rfl (tupC t) _ F1.range Tryz.underlying170 rfl hz ?_)
                      | (refine gate_dst (N := 77) rfl ?_; refine gate_guard (by rfl) ?_; dsimp only; refine wpList_look_run _ rfl _ _ _ _ rfl rfl rfl F0 ?_))
                    go_ret
                    exact ⟨by first | rfl | (simp; done), F3⟩
                | false =>
                  simp only [Bool.false_and] at hp
                  rw [if_neg (by decide)] at hp
                  have HP3 := Aside0.mk hp
                  clear hp
                  go_wp2_with (first
                    | (go_at_call 125; refine HPK.out.mono ?_; rintro e w1 ⟨rfl, hb1⟩; obtain ⟨F1, F2, F3, F4, F5⟩ := FW w1 hb1; have hth1 := hth w1)
                    | (refine wpList_store_mid rfl 170 (.tmp 16) _ rfl w1.heap.size 0 (tupC t).toArray rfl rfl hth1 hza hone ?_; change wpList _ _ _ _ _ (tupW w1 t); clear hth1 hb1; generalize tupW w1 t = W5 at *; generalize w1.heap.size = Bt at *))
                  go_roundg g2
                  case measure => omega
                  case rel => exact ⟨q + 1, by omega, by first | rfl | (simp; done) | (have := HCN.out.2.1; simp; unfold wrap64; omega), ⟨F2⟩, ⟨F3⟩, ⟨F4⟩, ⟨F5⟩, HP3⟩
        | succ g2 =>
          have hjlt : j < (rd_L13 d rf.f1).length := by omega
          have hjj : (j : Int) < ((rd_L13 d rf.f1).length : Int) := by omega
          have hj0 : (0 : Int) ≤ (j : Int) := by omega
          have hdrj : (rd_L13 d rf.f1).drop j = (rd_L13 d rf.f1)[j] :: (rd_L13 d rf.f1).drop (j + 1) := List.drop_eq_getElem_cons hjlt
          have hrdj : rd_L12 (rd_L13 d rf.f1) (j : Int) = (rd_L13 d rf.f1)[j] := by unfold rd_L12; simp [List.getD, hjlt]
          have hrm : (rd_L13 d rf.f1) ∈ d := by
            unfold rd_L13
            have : rf.f1.toNat < d.length := by omega
            rw [List.getD_eq_getElem?_getD, List.getElem?_eq_getElem this]
            exact List.getElem_mem this
          obtain ⟨adr, Aw, cw, hAw, hxr, hcw, hCw⟩ := at_L12 HCR.out (j : Int) hj0 hjj
          cases hAw
          rw [hrdj] at hxr hcw hCw
          rw [Int.toNat_natCast] at hxr
          have hr3 := (HW.out.cell (World.block_lt_of_cell? w _ hxr)).trans hxr
          have hwr := HWF.out _ hrm _ (List.getElem_mem hjlt)
          have hp := HP.out
          rw [hdrj, knownP] at hp
          generalize (rd_L13 d rf.f1)[j] = row at *
          cases hpk : pickP row 0 (rd_L6 (rd_T49 s rf.f1).f2 rf.f2) tup0 with
          | none => rw [hpk] at hp; simp at hp
          | some x =>
            obtain ⟨t, full⟩ := x
            rw [hpk] at hp
            simp only [Option.bind_some] at hp
            have h8 : t.length = 8 := by rw [pickP_len _ _ _ _ _ _ hpk]; rfl
            have hwt := pickP_wf _ _ _ _ _ _ hpk hwr tup0_wf
            obtain ⟨kl, hkey⟩ := key_tup t h8 hwt
            have hkey' : keyOf Tryz.prog 170 (tupV t) = some kl := hkey
            have hb1 : wr.cell? ⟨Br, 1, none⟩ = some (.int .i64 rf.f1) := (blk_cell HX.out 1).trans rfl
            have hb2' : wr.cell? ⟨Br, 2, none⟩ = some (.int .i64 rf.f2) := (blk_cell HX.out 2).trans rfl
            have hv2 := (HW.out.cell (World.block_lt_of_cell? w _ HV2.out)).trans HV2.out
            have hvk := (HW.out.cell (World.block_lt_of_cell? w _ HVK.out)).trans HVK.out
            have HP3 := Aside0.mk hp
            clear hp hxr hwt
            have hz : (Tryz.prog.info? 170).map (·.size) = some (tupC t).length := by rw [tupC_len, h8]; kernel_rfl
            have hza : (Tryz.prog.info? 170).map (·.size) = some (tupC t).toArray.size := by rw [List.size_toArray]; exact hz
            have hone : (tupC t).toArray.all (·.oneCell') = true := tupC_one t
            have hPK : ∀ w1, Below wr.heap.size wr w1 → Calls Tryz.prog 125 #[.slice Aw row.length cw, .slice Ak (rd_L6 (rd_T49 s rf.f1).f2 rf.f2).length ck] w1 fun e w' => e = .returned (.tuple #[.agg (tupC t).toArray, .bool full]) ∧ Below w1.heap.size w1 w' := fun w1 hb =>
              pick_walk Aw cw row Ak ck _ t full w1 (Kd.C_below (Kd.C_below hCw HW.out) hb) hcw (Kd.C_below (Kd.C_below HCK.out HW.out) hb) hck hpk
            have hmk : ∀ w', Below wr.heap.size wr w' → (w'.cell? ⟨Br, 1, none⟩ = some (.int .i64 rf.f1) ∧ w'.cell? ⟨Br, 2, none⟩ = some (.int .i64 rf.f2) ∧ w'.cell? ⟨(ad.add (rf.f1.toNat * 5)).block, (ad.add (rf.f1.toNat * 5)).off + 2, none⟩ = some (.slice (some adK) (rd_T49 s rf.f1).f2.length b2) ∧ w'.cell? (adK.add rf.f2.toNat) = some (.slice Ak (rd_L6 (rd_T49 s rf.f1).f2 rf.f2).length ck) ∧ Below wr.heap.size wr w') := fun w' hb =>
              ⟨(hb.cell (World.block_lt_of_cell? wr _ hb1)).trans hb1, (hb.cell (World.block_lt_of_cell? wr _ hb2')).trans hb2', (hb.cell (World.block_lt_of_cell? wr _ hv2)).trans hv2, (hb.cell (World.block_lt_of_cell? wr _ hvk)).trans hvk, hb⟩
            have hth : ∀ w1 : World, (w1.alloc zObj).there w1.heap.size 0 (tupC t).toArray.size := fun w1 => (zObj_TB w1).there 0 _ (by rw [List.size_toArray, tupC_len, h8]; omega)
            have hthB : ∀ W w1 : World, Below (W.alloc zObj).drew.heap.size (W.alloc zObj).drew w1 → w1.there W.heap.size 0 (tupC t).toArray.size := fun W w1 hb => (TB.there (t := tup0) ⟨(zObj_TB W).1.drew.of_block (hb.block _ (by simp)), rfl⟩ 0 _ (by rw [List.size_toArray, tupC_len, h8]; omega))
            have HMK := Aside0.mk hmk
            have HPK := Aside0.mk hPK
            have FS : Aside0 (∀ W5, Below wr.heap.size wr W5 → ∃ w7, (Instr.mapUpdate 175 (.map (some (Br + 1))) (tupV t) (.bool true)).run Tryz.prog W5 = .ok () w7 ∧ SetM Tryz.prog 170 boolR w7 (Br + 1) ((t :: S).map tupV) ∧ Below w.heap.size w w7 ∧ Br + 2 ≤ w7.heap.size ∧
                w7.heap[Br]? = some (.cells #[Value.slice Ac rf.f0.length cc, Value.int IntKind.i64 rf.f1, Value.int IntKind.i64 rf.f2] 75 (0, 0))) := ⟨by
              intro W5 hb5
              have hz' := HSZ.out
              have hs5 := hb5.size
              have h6 : SetM Tryz.prog 170 boolR W5 (Br + 1) (S.map tupV) := HM.out.kept (hb5.block _ (by omega))
              have hbw : Below w.heap.size w W5 := below_step HW.out hb5
              obtain ⟨w7, hrun, hset, hturn⟩ := h6.store key90 Tryz.underlying175 (by rw [List.length_map]; have := HSL.out; have := HCR.out.2.1; show S.length < 9223372036854775807; omega) (val := .bool true) (d := .lit (.bool true)) (ps := []) hkey' rfl
              have hg := hturn.grown
              refine ⟨w7, hrun, hset, hbw.grown hg hbw.size (fun k hk => by cases hk; have := HBR.out; omega), by have := hg.size; omega, ?_⟩
              rw [hg.block Br (by omega) (by simp)]
              exact (hb5.block _ (by omega)).trans HX.out⟩
            have hs0 := hmk wr (Below.refl _ _)
            clear hmk hPK hkey hpk
            go_wp2
            refine wp_region_held_drew (S := (fun w' => w'.cell? ⟨Br, 1, none⟩ = some (.int .i64 rf.f1) ∧ w'.cell? ⟨Br, 2, none⟩ = some (.int .i64 rf.f2) ∧ w'.cell? ⟨(ad.add (rf.f1.toNat * 5)).block, (ad.add (rf.f1.toNat * 5)).off + 2, none⟩ = some (.slice (some adK) (rd_T49 s rf.f1).f2.length b2) ∧ w'.cell? (adK.add rf.f2.toNat) = some (.slice Ak (rd_L6 (rd_T49 s rf.f1).f2 rf.f2).length ck) ∧ Below wr.heap.size wr w')) (by kernel_rfl) (HMK.out _ (below_drew1 (Below.refl _ _))) (fun hHeld => ?_)
            refine wpAnyH_take (i := 0) (oi := _) (v := ?v0) rfl (by kernel_rfl) (by kernel_rfl) (by kernel_rfl) (fun _ _ _ h => h) (Or.inl ⟨by rfl, ?hy0⟩) (by assumption) ?rest0
            case hy0 => (intro w hSw; (try dsimp only at hSw); go_simp; try with_reducible rfl)
            case rest0 =>
             (try simp only [Act.put, List.setIfInBounds_toArray, List.set_cons_zero, List.set_cons_succ])
             refine wpAnyH_take (i := 1) (oi := _) (v := ?v1) rfl (by kernel_rfl) (by kernel_rfl) (by kernel_rfl) (fun _ _ _ h => h) (Or.inl ⟨by rfl, ?hy1⟩) (by assumption) ?rest1
             case hy1 => (intro w hSw; (try dsimp only at hSw); go_simp; try with_reducible rfl)
             case rest1 =>
              (try simp only [Act.put, List.setIfInBounds_toArray, List.set_cons_zero, List.set_cons_succ])
              refine wpAnyH_take (i := 2) (oi := _) (v := ?v2) rfl (by kernel_rfl) (by kernel_rfl) (by kernel_rfl) (fun _ _ _ h => h) (Or.inl ⟨by rfl, ?hy2⟩) (by assumption) ?rest2
              case hy2 => (intro w hSw; (try dsimp only at hSw); go_simp; try with_reducible rfl)
              case rest2 =>
               (try simp only [Act.put, List.setIfInBounds_toArray, List.set_cons_zero, List.set_cons_succ])
               refine wpAnyH_take (i := 3) (oi := _) (v := ?v3) rfl (by kernel_rfl) (by kernel_rfl) (by kernel_rfl) (fun _ _ _ h => h) (Or.inl ⟨by rfl, ?hy3⟩) (by assumption) ?rest3
               case hy3 => (intro w hSw; (try dsimp only at hSw); go_simp; try with_reducible rfl)
               case rest3 =>
                (try simp only [Act.put, List.setIfInBounds_toArray, List.set_cons_zero, List.set_cons_succ])
                refine wpAnyH_take (i := 4) (oi := _) (v := ?v4) rfl (by kernel_rfl) (by kernel_rfl) (by kernel_rfl) (fun _ _ _ h => h) (Or.inl ⟨by rfl, ?hy4⟩) (by assumption) ?rest4
                case hy4 => (intro w hSw; (try dsimp only at hSw); go_simp; try with_reducible rfl)
                case rest4 =>
                 (try simp only [Act.put, List.setIfInBounds_toArray, List.set_cons_zero, List.set_cons_succ])
                 refine wpAnyH_take (i := 5) (oi := _) (v := ?v5) rfl (by kernel_rfl) (by kernel_rfl) (by kernel_rfl) (fun _ _ _ h => h) (Or.inl ⟨by rfl, ?hy5⟩) (by assumption) ?rest5
                 case hy5 => (intro w hSw; (try dsimp only at hSw); go_simp; try with_reducible rfl)
                 case rest5 =>
                  (try simp only [Act.put, List.setIfInBounds_toArray, List.set_cons_zero, List.set_cons_succ])
                  refine wpAnyH_take (i := 6) (oi := _) (v := ?v6) rfl (by kernel_rfl) (by kernel_rfl) (by kernel_rfl) (fun _ _ _ h => h) (Or.inl ⟨by rfl, ?hy6⟩) (by assumption) ?rest6
                  case hy6 => (intro w hSw; (try dsimp only at hSw); go_simp; try with_reducible rfl)
                  case rest6 =>
                   (try simp only [Act.put, List.setIfInBounds_toArray, List.set_cons_zero, List.set_cons_succ])
                   refine wpAnyH_take (i := 7) (oi := _) (v := ?v7) rfl (by kernel_rfl) (by kernel_rfl) (by kernel_rfl) (fun _ _ _ h => h) (Or.inl ⟨by rfl, ?hy7⟩) (by assumption) ?rest7
                   case hy7 => (intro w hSw; (try dsimp only at hSw); go_simp; try with_reducible rfl)
                   case rest7 =>
                    (try simp only [Act.put, List.setIfInBounds_toArray, List.set_cons_zero, List.set_cons_succ])
                    refine wpAnyH_take (i := 8) (oi := _) (v := ?v8) rfl (by kernel_rfl) (by kernel_rfl) (by kernel_rfl) (fun _ _ _ h => h) (Or.inl ⟨by rfl, ?hy8⟩) (by assumption) ?rest8
                    case hy8 => (intro w hSw; (try dsimp only at hSw); go_simp; try with_reducible rfl)
                    case rest8 =>
                     (try simp only [Act.put, List.setIfInBounds_toArray, List.set_cons_zero, List.set_cons_succ])
                     refine wpAnyH_take (i := 9) (oi := _) (v := ?v9) rfl (by kernel_rfl) (by kernel_rfl) (by kernel_rfl) (fun _ _ _ h => h) (Or.inl ⟨by rfl, ?hy9⟩) (by assumption) ?rest9
                     case hy9 => (intro w hSw; (try dsimp only at hSw); go_simp; try with_reducible rfl)
                     case rest9 =>
                      (try simp only [Act.put, List.setIfInBounds_toArray, List.set_cons_zero, List.set_cons_succ])
                      refine wpAnyH_take (i := 10) (oi := _) (v := ?v10) rfl (by kernel_rfl) (by kernel_rfl) (by kernel_rfl) (fun _ _ _ h => h) (Or.inl ⟨by rfl, ?hy10⟩) (by assumption) ?rest10
                      case hy10 => (intro w hSw; (try dsimp only at hSw); go_simp; try with_reducible rfl)
                      case rest10 =>
                       (try simp only [Act.put, List.setIfInBounds_toArray, List.set_cons_zero, List.set_cons_succ])
                       refine wpAnyH_ready (rs := [11, 15]) (by kernel_rfl) (by simp) ?_
                       refine AllReadyH.cons (i := 11) (o := _) rfl (fun K hK => ?wayA) ?more
                       case wayA =>
                        go_simp
                        refine (HPK.out _ (below_drew1 (Below.refl _ _))).mono ?_
                        rintro e w1 ⟨rfl, hb1⟩
                        have hq1 : Below wr.heap.size wr w1 := below_step (below_drew1 (Below.refl _ _)) hb1
                        go_wp2
                        refine hK.out _ _ ?hSA (fun hHeld => ?nxA)
                        case hSA => exact HMK.out _ (hq1)
                        case nxA =>
                         clear hK K
                         (try simp only [Act.put, List.setIfInBounds_toArray, List.set_cons_zero, List.set_cons_succ])
                         refine wpAnyH_take (i := 12) (oi := _) (v := ?v12a) rfl (by kernel_rfl) (by kernel_rfl) (by kernel_rfl) (fun _ _ _ h => h) (Or.inl ⟨by rfl, ?hy12a⟩) (by assumption) ?rest12a
                         case hy12a => (intro w hSw; (try dsimp only at hSw); go_simp; try with_reducible rfl)
                         case rest12a =>
                          (try simp only [Act.put, List.setIfInBounds_toArray, List.set_cons_zero, List.set_cons_succ])
                          refine wpAnyH_take (i := 13) (oi := _) (v := ?v13a) rfl (by kernel_rfl) (by kernel_rfl) (by kernel_rfl) (fun _ _ _ h => h) (Or.inl ⟨by rfl, ?hy13a⟩) (by assumption) ?rest13a
                          case hy13a => (intro w hSw; (try dsimp only at hSw); go_simp; try with_reducible rfl)
                          case rest13a =>
                           (try simp only [Act.put, List.setIfInBounds_toArray, List.set_cons_zero, List.set_cons_succ])
                           refine wpAnyH_take (i := 14) (oi := _) (v := ?v14a) rfl (by kernel_rfl) (by kernel_rfl) (by kernel_rfl) (fun _ _ _ h => h) (Or.inl ⟨by rfl, ?hy14a⟩) (by assumption) ?rest14a
                           case hy14a => (intro w hSw; (try dsimp only at hSw); go_simp; try with_reducible rfl)
                           case rest14a =>
                            (try simp only [Act.put, List.setIfInBounds_toArray, List.set_cons_zero, List.set_cons_succ])
                            refine wpAnyH_ready (rs := [15]) (by kernel_rfl) (by simp) ?_
                            refine AllReadyH.cons (i := 15) (o := _) rfl (fun K hK => ?wayAB) ?moreAB
                            case moreAB => exact AllReadyH.nil
                            case wayAB =>
                             go_simp
                             refine hK.out _ _ ?hSB (fun hHeld => ?nxB)
                             case hSB => exact HMK.out _ (below_alloc hq1 _)
                             case nxB =>
                              clear hK K
                              (try simp only [Act.put, List.setIfInBounds_toArray, List.set_cons_zero, List.set_cons_succ])
                              refine wpAnyH_ready (rs := [16]) (by kernel_rfl) (by simp) ?_
                              refine AllReadyH.cons (i := 16) (o := _) rfl (fun K hK => ?wayAC) ?moreAC
                              case moreAC => exact AllReadyH.nil
                              case wayAC =>
                               rw [if_pos (by rfl)]
                               refine wp_store_mid 170 (.tmp 12) (.tmp 52) rfl _ 0 (tupC t).toArray rfl rfl (hth w1) hza hone ?_
                               have hqT : Below wr.heap.size wr (tupW w1 t) := tupW_below t hq1 hq1.size
                               change K _ (tupW w1 t)
                               have hq2 : Below wr.heap.size wr (tupW w1 t) := hqT
                               refine hK.out _ _ ?hSC (fun hHeld => ?nxC)
                               case hSC => exact HMK.out _ (hq2)
                               case nxC =>
                                clear hK K
                                (try simp only [Act.put, List.setIfInBounds_toArray, List.set_cons_zero, List.set_cons_succ])
                                refine wpAnyH_take (i := 17) (oi := _) (v := ?v17C) rfl (by kernel_rfl) (by kernel_rfl) (by kernel_rfl) (fun _ _ _ h => h) (Or.inl ⟨by rfl, ?hy17C⟩) (by assumption) ?rest17C
                                case hy17C => (intro w hSw; (try dsimp only at hSw); go_simp; try with_reducible rfl)
                                case rest17C =>
                                 (try simp only [Act.put, List.setIfInBounds_toArray, List.set_cons_zero, List.set_cons_succ])
                                 refine wpAnyH_done (by kernel_rfl) ?_ _
                                 have F1 := Aside0.mk (tupW_TB w1 t h8)
                                 obtain ⟨w7, hrun, G2, G3, G4, G5⟩ := FS.out _ hq2
                                 generalize tupW w1 t = W5 at *
                                 go_wp2_with (first | (refine wpList_load_mid rfl 170 (.tmp 12) rfl w1.heap.size 0 rfl (tupC t) _ F1.out.range Tryz.underlying170 rfl hz ?_) | (at_mapUpdate; refine wpList_store_run _ rfl _ _ _ _ rfl rfl rfl rfl hrun ?_))
                                 go_roundg g2
                                 case measure => omega
                                 case rel => exact ⟨j + 1, t :: S, by omega, by first | rfl | (simp; done) | (have := HCR.out.2.1; simp; unfold wrap64; omega), ⟨by rw [List.length_cons]; have := HSL.out; omega⟩, ⟨G2⟩, ⟨G3⟩, ⟨G4⟩, ⟨G5⟩, HP3⟩
                       case more =>
                        refine AllReadyH.cons (i := 15) (o := _) rfl (fun K hK => ?wayB) ?moreB
                        case moreB => exact AllReadyH.nil
                        case wayB =>
                         go_simp
                         refine hK.out _ _ ?hSD (fun hHeld => ?nxD)
                         case hSD => exact HMK.out _ (below_drew1 (below_alloc (Below.refl _ _) _))
                         case nxD =>
                          clear hK K
                          (try simp only [Act.put, List.setIfInBounds_toArray, List.set_cons_zero, List.set_cons_succ])
                          refine wpAnyH_ready (rs := [11]) (by kernel_rfl) (by simp) ?_
                          refine AllReadyH.cons (i := 11) (o := _) rfl (fun K hK => ?wayBB) ?moreBB
                          case moreBB => exact AllReadyH.nil
                          case wayBB =>
                           go_simp
                           refine (HPK.out _ (below_drew1 (below_alloc (Below.refl _ _) _))).mono ?_
                           rintro e w1 ⟨rfl, hb1⟩
                           have hq1 : Below wr.heap.size wr w1 := below_step (below_drew1 (below_alloc (Below.refl _ _) _)) hb1
                           go_wp2
                           refine hK.out _ _ ?hSE (fun hHeld => ?nxE)
                           case hSE => exact HMK.out _ (hq1)
                           case nxE =>
                            clear hK K
                            (try simp only [Act.put, List.setIfInBounds_toArray, List.set_cons_zero, List.set_cons_succ])
                            refine wpAnyH_take (i := 12) (oi := _) (v := ?v12b) rfl (by kernel_rfl) (by kernel_rfl) (by kernel_rfl) (fun _ _ _ h => h) (Or.inl ⟨by rfl, ?hy12b⟩) (by assumption) ?rest12b
                            case hy12b => (intro w hSw; (try dsimp only at hSw); go_simp; try with_reducible rfl)
                            case rest12b =>
                             (try simp only [Act.put, List.setIfInBounds_toArray, List.set_cons_zero, List.set_cons_succ])
                             refine wpAnyH_take (i := 13) (oi := _) (v := ?v13b) rfl (by kernel_rfl) (by kernel_rfl) (by kernel_rfl) (fun _ _ _ h => h) (Or.inl ⟨by rfl, ?hy13b⟩) (by assumption) ?rest13b
                             case hy13b => (intro w hSw; (try dsimp only at hSw); go_simp; try with_reducible rfl)
                             case rest13b =>
                              (try simp only [Act.put, List.setIfInBounds_toArray, List.set_cons_zero, List.set_cons_succ])
                              refine wpAnyH_take (i := 14) (oi := _) (v := ?v14b) rfl (by kernel_rfl) (by kernel_rfl) (by kernel_rfl) (fun _ _ _ h => h) (Or.inl ⟨by rfl, ?hy14b⟩) (by assumption) ?rest14b
                              case hy14b => (intro w hSw; (try dsimp only at hSw); go_simp; try with_reducible rfl)
                              case rest14b =>
                               (try simp only [Act.put, List.setIfInBounds_toArray, List.set_cons_zero, List.set_cons_succ])
                               refine wpAnyH_ready (rs := [16]) (by kernel_rfl) (by simp) ?_
                               refine AllReadyH.cons (i := 16) (o := _) rfl (fun K hK => ?wayBC) ?moreBC
                               case moreBC => exact AllReadyH.nil
                               case wayBC =>
                                rw [if_pos (by rfl)]
                                refine wp_store_mid 170 (.tmp 12) (.tmp 52) rfl _ 0 (tupC t).toArray rfl rfl (hthB wr w1 hb1) hza hone ?_
                                have hqT : Below wr.heap.size wr (w1.setCells wr.heap.size 0 (tupC t)) := Go.below_setCells (Nat.le_refl _) _ _ _ hq1
                                have hTB : TB (w1.setCells wr.heap.size 0 (tupC t)) wr.heap.size t := TB.put (t := tup0) ⟨(zObj_TB wr).1.drew.of_block (hb1.block _ (by simp)), rfl⟩ h8
                                change K _ (w1.setCells wr.heap.size 0 (tupC t))
                                have hq2 : Below wr.heap.size wr (w1.setCells wr.heap.size 0 (tupC t)) := hqT
                                refine hK.out _ _ ?hSF (fun hHeld => ?nxF)
                                case hSF => exact HMK.out _ (hq2)
                                case nxF =>
                                 clear hK K
                                 (try simp only [Act.put, List.setIfInBounds_toArray, List.set_cons_zero, List.set_cons_succ])
                                 refine wpAnyH_take (i := 17) (oi := _) (v := ?v17F) rfl (by kernel_rfl) (by kernel_rfl) (by kernel_rfl) (fun _ _ _ h => h) (Or.inl ⟨by rfl, ?hy17F⟩) (by assumption) ?rest17F
                                 case hy17F => (intro w hSw; (try dsimp only at hSw); go_simp; try with_reducible rfl)
                                 case rest17F =>
                                  (try simp only [Act.put, List.setIfInBounds_toArray, List.set_cons_zero, List.set_cons_succ])
                                  refine wpAnyH_done (by kernel_rfl) ?_ _
                                  have F1 := Aside0.mk hTB
                                  obtain ⟨w7, hrun, G2, G3, G4, G5⟩ := FS.out _ hq2
                                  generalize w1.setCells wr.heap.size 0 (tupC t) = W5 at *
                                  go_wp2_with (first | (refine wpList_load_mid rfl 170 (.tmp 12) rfl wr.heap.size 0 rfl (tupC t) _ F1.out.range Tryz.underlying170 rfl hz ?_) | (at_mapUpdate; refine wpList_store_run _ rfl _ _ _ _ rfl rfl rfl rfl hrun ?_))
                                  go_roundg g2
                                  case measure => omega
                                  case rel => exact ⟨j + 1, t :: S, by omega, by first | rfl | (simp; done) | (have := HCR.out.2.1; simp; unfold wrap64; omega), ⟨by rw [List.length_cons]; have := HSL.out; omega⟩, ⟨G2⟩, ⟨G3⟩, ⟨G4⟩, ⟨G5⟩, HP3⟩
end Go.Proofs.YthgfdnffnbclpaaGreatDoor.PAll
namespace Go.Proofs.YthgfdnffnbclpaaGreatDoor.PAll
open Go.RowKit Go.Proofs.YthgfdnffnbclpaaGreatDoorW.PrintWords Go.Proofs.YthgfdnffnbclpaaGreatDoorW.PrintLast Go.Proofs.YthgfdnffnbclpaaGreatDoorW.PrintMore

def scheme_distinct_string.f (l : List ByteArray) : Option Bool := if l.all (fun s => decide (s.size ≤ 9223372036854775807)) = true then some (distP [] l) else none
theorem scheme_distinct_string.calls (A0 : Option Addr) (c0 : Nat) (l0 : List ByteArray) (r : Bool) (w : World) (hr0 : Kd.C Kd.string w A0 l0.length l0) (hc0 : l0.length ≤ c0) (h : scheme_distinct_string.f l0 = some r) :
    Calls Tryz.prog 64 #[.slice A0 l0.length c0] w fun e w' => e = .returned (.bool r) ∧ Below w.heap.size w w' := by
  unfold scheme_distinct_string.f at h
  split at h
  · rename_i hc
    obtain rfl := Option.some.inj h
    exact distinct_walk_string A0 c0 l0 w hr0 hc0 (fun s hs => of_decide_eq_true (List.all_eq_true.1 hc s hs))
  · cases h
def scheme_distinct_int.f (l : List Int) : Option Bool := if l.all (fun s => (Lit.int .i64 s).wf) = true then some (distP [] l) else none
theorem scheme_distinct_int.calls (A0 : Option Addr) (c0 : Nat) (l0 : List Int) (r : Bool) (w : World) (hr0 : Kd.C (Kd.int .i64) w A0 l0.length l0) (hc0 : l0.length ≤ c0) (h : scheme_distinct_int.f l0 = some r) :
    Calls Tryz.prog 116 #[.slice A0 l0.length c0] w fun e w' => e = .returned (.bool r) ∧ Below w.heap.size w w' := by
  unfold scheme_distinct_int.f at h
  split at h
  · rename_i hc
    obtain rfl := Option.some.inj h
    exact distinct_walk_int A0 c0 l0 w hr0 hc0 (fun s hs => List.all_eq_true.1 hc s hs)
  · cases h
end Go.Proofs.YthgfdnffnbclpaaGreatDoor.PAll
