/- A part of the proof: KwP8, KwP9, KwP10, KwSpec4, KwP11, KwP12, KwP13, KwP14. -/
import Derived.Test.YtpakilamdannfaaGreatDoorKd
set_option linter.all false
set_option linter.unusedVariables false
set_option linter.unusedSimpArgs false
set_option linter.unusedSectionVars false
set_option maxRecDepth 20000
set_option linter.unusedVariables false
namespace Go.Kw
open Go.Proofs
theorem tok26 : TyOK Tryz.prog 26 i8 := ⟨Tryz.isAgg26, Tryz.sizeOf26, Tryz.zeroValue26⟩
theorem tok55 : TyOK Tryz.prog 55 moveT := ⟨Tryz.isAgg55, Tryz.sizeOf55, Tryz.zeroValue55⟩
theorem tok92 : TyOK Tryz.prog 92 (.ar 2 i64) := ⟨Tryz.isAgg92, Tryz.sizeOf92, Tryz.zeroValue92⟩
abbrev fs54 : List Ty := [i8, i8, u8, u8, .bool]
theorem bl55 : BuildOK Tryz.prog 55 fs54 := ⟨_, _, rfl, rfl, Tryz.underlying55, by kernel_rfl⟩
theorem fa31_4 : FA Tryz.prog 31 4 78 := fun a w => by simp [Instr.fieldAt, Tryz.runUnderlying31, Instr.sureAddr, fieldPlace, Tryz.sizeOf5]
theorem fa31_5 : FA Tryz.prog 31 5 79 := fun a w => by simp [Instr.fieldAt, Tryz.runUnderlying31, Instr.sureAddr, fieldPlace, Tryz.sizeOf28]

def rkAt (p : Pos) (c s : Int) : Int := ((rk p).getD c.toNat (zero (.ar 2 i8))).getD s.toNat (zero i8)
theorem getD2 {l : List (List Int)} {n : Nat} {lo hi : Int} (h : ∀ c k, lo ≤ (l.getD c []).getD k 0 ∧ (l.getD c []).getD k 0 ≤ hi) (h0 : lo ≤ 0) (h1 : 0 ≤ hi) (c k : Nat) : lo ≤ (l.getD c (List.replicate n 0)).getD k 0 ∧ (l.getD c (List.replicate n 0)).getD k 0 ≤ hi := by
  by_cases hc : c < l.length
  · have e : l.getD c (List.replicate n 0) = l.getD c [] := by simp [List.getD_eq_getElem?_getD, List.getElem?_eq_getElem hc]
    rw [e]; exact h c k
  · have e : l.getD c (List.replicate n 0) = List.replicate n 0 := by
      rw [List.getD_eq_getElem?_getD, List.getElem?_eq_none yo]; rfl
    rw [e, List.getD_eq_getElem?_getD, List.getElem?_replicate]
    split <;> simp <;> omega
theorem rkAt_rng {p : Pos} (hp : POK p) (c s : Int) : -128 ≤ rkAt p c s ∧ rkAt p c s ≤ 127 := getD2 (n := 2) hp.rk yd yd _ _
def rookP (p : Pos) (king side : Int) : Int × Bool :=
  if rkAt p (tu p) side < 0 ∨ 7 < rkAt p (tu p) side then (0, false)
  else (56 * tu p + rkAt p (tu p) side, decide (pb p (56 * tu p + rkAt p (tu p) side) = 8 * tu p + 4) && (decide (king < 56 * tu p + rkAt p (tu p) side) == decide (side = 0)) && !decide (56 * tu p + rkAt p (tu p) side = king))
theorem rook_no {p : Pos} {king side : Int} (h : rkAt p (tu p) side < 0 ∨ 7 < rkAt p (tu p) side) : Value.tuple #[.int .i64 0, .bool false] = .tuple #[.int .i64 (rookP p king side).1, .bool (rookP p king side).2] := by
  unfold rookP; rw [if_pos h]
theorem rook_yes {p : Pos} {king side : Int} (h : 0 ≤ rkAt p (tu p) side ∧ rkAt p (tu p) side ≤ 7) : Value.tuple #[.int .i64 (56 * tu p + rkAt p (tu p) side), .bool (decide (pb p (56 * tu p + rkAt p (tu p) side) = 8 * tu p + 4) && (decide (king < 56 * tu p + rkAt p (tu p) side) == decide (side = 0)) && !decide (56 * tu p + rkAt p (tu p) side = king))] = .tuple #[.int .i64 (rookP p king side).1, .bool (rookP p king side).2] := by
  unfold rookP; rw [if_neg yo]
def noneAt (b : BitVec 64) (s : Int) : Bool := decide ((b >>> ((BitVec.ofInt 64 s).toNat : Int).toNat) &&& 1#64 = 0#64)
def putB (p : Pos) (i v : Int) : Pos := (p.1, p.2.1.set i.toNat v, p.2.2)
theorem POK_put {p : Pos} (hp : POK p) (i : Int) {v : Int} (h0 : 0 ≤ v) (h1 : v ≤ 255) : POK (putB p i v) := by
  refine ⟨⟨trivial, ⟨?_, fun _ _ => trivial⟩, hp.wf.2.2⟩, fun j => ?_, hp.vr, hp.tu, hp.pg, hp.hf, hp.fl, hp.pk, hp.rk, hp.ck⟩
  · show (List.set p.2.1 i.toNat v).length = 64
    rw [List.length_set]; exact hp.wf.2.1.1
  · show 0 ≤ (List.set p.2.1 i.toNat v).getD j 0 ∧ (List.set p.2.1 i.toNat v).getD j 0 ≤ 255
    rw [List.getD_eq_getElem?_getD, List.getElem?_set]
    split
    · split
      · exact ⟨h0, h1⟩
      · simp
    · have := hp.board j
      rw [List.getD_eq_getElem?_getD] at this
      exact this
def safeP (p q : Pos) (o : BitVec 64) (s : Int) : Bool := (decide (vr p = 3) && !decide (kingB s &&& o = 0#64)) || !(!decide (byB q s (1 - tu p) = 0#64))
theorem rookP_rng (p : Pos) (king side : Int) (hp : POK p) (ht : tu p ≤ 1) (h : (rookP p king side).2 = true) : 0 ≤ (rookP p king side).1 ∧ (rookP p king side).1 < 64 := by
  have := hp.tu
  unfold rookP at *
  split at h
  · cases h
  · rename_i hn; rw [if_neg hn]; simp only; omega
theorem goalsT_wf : wf (.ar 2 (.ar 2 i64)) goalsT := wf_of_q rfl
def goalP (side : Int) (j : Int) : Int := (goalsT.getD side.toNat (zero (.ar 2 i64))).getD j.toNat (zero i64)
theorem goals_wf (side : Int) : wf (.ar 2 i64) (goalsT.getD side.toNat (zero (.ar 2 i64))) := by
  rw [List.getD_eq_getElem?_getD]
  cases h : goalsT[side.toNat]? with
  | none => exact wf_zero _
  | some x => exact goalsT_wf.2 x (List.mem_of_getElem? h)
theorem goal_rng (side j : Int) (h2 : 0 ≤ side) (h3 : side ≤ 1) : 0 ≤ goalP side j ∧ goalP side j ≤ 7 := by
  have hg : ∀ (l : List Int) (n : Nat), (∀ x ∈ l, 0 ≤ x ∧ x ≤ 7) → 0 ≤ l.getD n 0 ∧ l.getD n 0 ≤ 7 := by
    intro l n h
    rw [List.getD_eq_getElem?_getD]
    cases hx : l[n]? with
    | none => simp
    | some x => exact h x (List.mem_of_getElem? hx)
  have : side = 0 ∨ side = 1 := by omega
  rcases this with rfl | rfl
  · exact hg [6, 5] _ yd
  · exact hg [2, 3] _ yd
def mayP (p : Pos) (king side : Int) : Mv × Bool :=
  if (rookP p king side).2 = true then
    ((king, (rookP p king side).1, (0 : Int), (0 : Int), true, ()),
     ((rngL king (56 * tu p + goalP side 0)).all (noneAt (allB (putB (putB p king 0) (rookP p king side).1 0)))
      && (rngL (rookP p king side).1 (56 * tu p + goalP side 1)).all (noneAt (allB (putB (putB p king 0) (rookP p king side).1 0))))
      && (rngL king (56 * tu p + goalP side 0)).all (safeP p (putB (putB p king 0) (rookP p king side).1 0) (ofB p (1 - tu p) 6)))
  else (zero moveT, false)
theorem may_no {p : Pos} {king side : Int} (h : (rookP p king side).2 = false) : Value.tuple #[enc moveT (zero moveT), .bool false] = .tuple #[enc moveT (mayP p king side).1, .bool (mayP p king side).2] := by
  unfold mayP; rw [if_neg xasy]
theorem may_yes {p : Pos} {king side : Int} (h : (rookP p king side).2 = true) : Value.tuple #[enc moveT (king, (rookP p king side).1, (0 : Int), (0 : Int), true, ()), .bool (((rngL king (56 * tu p + goalP side 0)).all (noneAt (allB (putB (putB p king 0) (rookP p king side).1 0)))
      && (rngL (rookP p king side).1 (56 * tu p + goalP side 1)).all (noneAt (allB (putB (putB p king 0) (rookP p king side).1 0))))
      && (rngL king (56 * tu p + goalP side 0)).all (safeP p (putB (putB p king 0) (rookP p king side).1 0) (ofB p (1 - tu p) 6)))] = .tuple #[enc moveT (mayP p king side).1, .bool (mayP p king side).2] := by
  unfold mayP; rw [if_pos h]

theorem c_castle_rook (p : Pos) (hp : POK p) (king side : Int) (M : List Fact) (ht : tu p ≤ 1) (h0 : 0 ≤ king) (h1 : king < 64) (h2 : 0 ≤ side) (h3 : side ≤ 1) : Pure Tryz.prog 196 [enc posT p, .int .i64 king, .int .i64 side] M (.tuple #[.int .i64 (rookP p king side).1, .bool (rookP p king side).2]) := by
 obtain ⟨hb, hpw, hvr, htu, hpg, hvr0, htu0⟩ := hp.head
 have hr := rkAt_rng hp (tu p) side
 simp only [rkAt, rk, tu] at hr
 simp only [tu] at ht
 refine pure_of_W (n := 52) Tryz.func196 rfl rfl yn ?_
 refine w2 (fun w0 => ?_)
 refine LO_l rfl (by decide : 3 < 52) (ol_box (t := posT) rfl rfl rfl yf (fun b1 => ?_))
 refine zA ?_
 refine zA ?_
 refine LO_nil (w1 ((yR (ov_fieldAddr rfl rfl fa31_4 rfl) ?_)))
 refine yR (ov_load rfl rfl ye ⟨trivial, yn⟩ rfl rfl tok5) ?_
 refine yM ?_
 refine yR (ov_fieldAddr rfl rfl fa31_5 rfl) ?_
 refine yR (ov_indexAddr rfl rfl rfl Tryz.underlying28 rfl Tryz.sizeOf27 ya ya) ?_
 refine yR (ov_indexAddr rfl rfl rfl Tryz.underlying27 rfl Tryz.sizeOf26 ya ya) ?_
 refine yR (ov_load rfl rfl ye ⟨⟨⟨trivial, yn⟩, (tn ya ya)⟩, (tn ya ya)⟩ rfl rfl tok26) ?_
 refine yR (ov_convn rfl rfl Tryz.underlying26 Tryz.underlying3 ya) ?_
 refine yA_ ?_
 refine RO_nil (W_seq (w1 ((yM ?_))))
 refine yR (ov_lss rfl rfl rfl) ?_
 refine yM ?_
 refine gM ?_
 refine yG (fun hg => OpX.v (ov_gtr rfl (look_gv rfl (bq hg)) rfl)) ?_
 refine yR (ov_or rfl rfl rfl rfl (fun h => bq h)) ?_
 refine RO_nil (W_cond rfl (fun hc1 => ?_) (fun hc1 => ?_))
 ·
  try simp only [yS] at hc1
  refine w1 ((yA_ ?_))
  refine yA_ ?_
  refine RO_nil (W_ret ⟨trivial, yc, (ResV_tmp2q rfl rfl rfl ?_)⟩)
  first | exact rook_no yA | exact rook_yes yA
 ·
  try simp only [yS] at hc1
  refine W_skip (w1 ((yR (ov_fieldAddr rfl rfl fa31_4 rfl) ?_)))
  refine yR (ov_load rfl rfl ye ⟨trivial, yn⟩ rfl rfl tok5) ?_
  refine yP (yV rfl rfl rfl Tryz.call159 (by apply c_castle_home <;> exact yz)) ?_
  refine yM ?_
  refine yR (ov_add rfl rfl rfl ya) ?_
  refine yA_ ?_
  refine RO_nil (W_seq (W_regd mixed yk ?_))
  refine yM ?_
  refine yM ?_
  refine yR (ov_fieldAddr rfl rfl fa31_1 rfl) ?_
  refine yR (ov_indexAddr rfl rfl rfl Tryz.underlying22 rfl Tryz.sizeOf5 ya ya) ?_
  refine yR (ov_load rfl rfl ye ⟨⟨trivial, yn⟩, (tn ya ya)⟩ rfl rfl tok5) ?_
  refine yR (ov_fieldAddr rfl rfl fa31_4 rfl) ?_
  refine yR (ov_load rfl rfl ye ⟨trivial, yn⟩ rfl rfl tok5) ?_
  refine yR (ov_mul rfl rfl rfl ya) ?_
  refine yR (ov_add rfl rfl rfl ya) ?_
  refine yR (ov_eql rfl rfl rfl) ?_
  refine yM ?_
  refine gM ?_
  refine gM ?_
  refine yG (fun hg => OpX.v (ov_gtr rfl (look_gv rfl (bq hg)) (look_gv rfl (bq hg)))) ?_
  refine gM ?_
  refine yG (fun hg => OpX.v (ov_eql rfl (look_gv rfl (bq hg)) rfl)) ?_
  refine yG (fun hg => OpX.v (ov_eqlB rfl Tryz.underlying4 (look_gv rfl (bq hg)) (look_gv rfl (bq hg)))) ?_
  refine yR (ov_and rfl rfl rfl rfl (fun h => bq h)) ?_
  refine yM ?_
  refine gM ?_
  refine gM ?_
  refine yG (fun hg => OpX.v (ov_neq rfl (look_gv rfl (bq hg)) (look_gv rfl (bq hg)))) ?_
  refine yR (ov_and rfl rfl rfl rfl (fun h => bq h)) ?_
  refine yA_ ?_
  refine yA_ ?_
  refine RO_nil (W_ret ⟨trivial, yc, (ResV_tmp2q rfl rfl rfl ?_)⟩)
  first | exact rook_no yA | exact rook_yes yA

theorem c_castle_may_1 (s : Int) (b1 t1 : Nat) (b : BitVec 64) (M : List Fact) (m1 : Fact.box b1 t1 u64 b ∈ M) (h0 : 0 ≤ s) (h1 : s < 64) : Pure Tryz.prog 197 [.int .i64 s, ptrv b1 u64 []] M (.bool (noneAt b s)) := by
 refine pure_of_W (n := 10) Tryz.func197 rfl rfl yn ?_
 refine w1 ((yA_ ?_))
 refine RO_nil (w1 ((yR (ov_load rfl rfl ye trivial rfl rfl tok23) ?_)))
 refine yM ?_
 refine yR (ov_conv64 rfl rfl Tryz.underlying3 Tryz.underlying111) ?_
 refine yR (ov_shr64 rfl rfl rfl ya) ?_
 refine yR (ov_bits (b := 1#64) rfl rfl rfl (.inl ⟨rfl, rfl⟩)) ?_
 refine yR (ov_eql64 (b := 0#64) rfl rfl rfl) ?_
 refine yA_ ?_
 refine RO_nil (W_ret ⟨trivial, yc, (ResV_tmp1 rfl rfl ?_)⟩)
 rfl

theorem c_castle_may_2 (p : Pos) (hp : POK p) (s : Int) (b1 b2 b3 t1 t2 t3 : Nat) (q : Pos) (hq : POK q) (o : BitVec 64) (M : List Fact) (hT : TAB ∈ M) (m1 : Fact.box b1 t1 posT p ∈ M) (m2 : Fact.box b2 t2 u64 o ∈ M) (m3 : Fact.box b3 t3 posT q ∈ M) (ht : tu p ≤ 1) (h0 : 0 ≤ s) (h1 : s < 64) : Pure Tryz.prog 198 [.int .i64 s, ptrv b1 posT [], ptrv b2 u64 [], ptrv b3 posT []] M (.bool (safeP p q o s)) := by
 obtain ⟨hb, hpw, hvr, htu, hpg, hvr0, htu0⟩ := hp.head
 simp only [tu] at ht
 refine pure_of_W (n := 25) Tryz.func198 rfl rfl yn ?_
 refine w1 ((yA_ ?_))
 refine RO_nil (W_seq (W_regd mixed yk ?_))
 refine yR (ov_fieldAddr rfl rfl fa31_0 rfl) ?_
 refine yR (ov_load rfl rfl ye ⟨trivial, yn⟩ rfl rfl tok5) ?_
 refine yR (ov_eql rfl rfl rfl) ?_
 refine yM ?_
 refine gM ?_
 refine yG (fun hg => yV rfl rfl (looks_cons (look_gv rfl (bq hg)) looks_nil) Tryz.call139 (by apply c_rays_King <;> exact yz)) ?_
 refine yG (fun hg => OpX.v (ov_load rfl rfl ye trivial rfl rfl tok23)) ?_
 refine yG (fun hg => OpX.v (ov_bits rfl (look_gv rfl (bq hg)) (look_gv rfl (bq hg)) (.inl ⟨rfl, rfl⟩))) ?_
 refine yG (fun hg => OpX.v (ov_neq64 (b := 0#64) rfl (look_gv rfl (bq hg)) rfl)) ?_
 refine yR (ov_and rfl rfl rfl rfl (fun h => bq h)) ?_
 refine yM ?_
 refine yG (fun hg => OpX.v (ov_load rfl rfl ye trivial rfl rfl tok31)) ?_
 refine gM ?_
 refine yG (fun hg => OpX.v (ov_fieldAddr rfl rfl fa31_4 rfl)) ?_
 refine yG (fun hg => OpX.v (ov_load rfl (look_gv rfl (bq hg)) ye ⟨trivial, yn⟩ rfl rfl tok5)) ?_
 refine yG (fun hg => OpX.v (ov_sub rfl rfl (look_gv rfl (bq hg)) ya)) ?_
 refine yG (fun hg => yV rfl rfl (looks_cons (look_gv rfl (bq hg)) (looks_cons (look_gv rfl (bq hg)) (looks_cons (look_gv rfl (bq hg)) looks_nil))) Tryz.call71 (by apply c_attack_On <;> exact yz)) ?_
 refine yG (fun hg => OpX.v (ov_not rfl (look_gv rfl (bq hg)))) ?_
 refine yR (ov_or rfl rfl rfl rfl (fun h => bq h)) ?_
 refine yA_ ?_
 refine RO_nil (W_ret ⟨trivial, yc, (ResV_tmp1 rfl rfl ?_)⟩)
 rfl

theorem c_castle_may (p : Pos) (hp : POK p) (king side : Int) (M : List Fact) (hT : TAB ∈ M) (ht : tu p ≤ 1) (h0 : 0 ≤ king) (h1 : king < 64) (h2 : 0 ≤ side) (h3 : side ≤ 1) : Pure Tryz.prog 160 [enc posT p, .int .i64 king, .int .i64 side] M (.tuple #[enc moveT (mayP p king side).1, .bool (mayP p king side).2]) := by
 obtain ⟨hb, hpw, hvr, htu, hpg, hvr0, htu0⟩ := hp.head
 have hrr := rookP_rng p king side hp ht
 have hgw := goalsT_wf
 have hge := goals_wf side
 have hg0 := goal_rng side 0 h2 h3
 have hg1 := goal_rng side 1 h2 h3
 simp only [goalP] at hg0 hg1
 have hqq := POK_put (POK_put hp king (v := 0) yd yd) (rookP p king side).1 (v := 0) yd yd
 have ht2 := ht
 simp only [tu] at ht2
 refine pure_of_W (n := 81) Tryz.func160 rfl rfl yn ?_
 refine w2 (fun w0 => ?_)
 refine LO_l rfl (by decide : 3 < 81) (ol_box (t := posT) rfl rfl rfl yf (fun b1 => ?_))
 refine LO_l rfl (by decide : 6 < 81) (ol_alloc (t := moveT) rfl tok55 yf (fun b2 => ?_))
 refine zA ?_
 refine LO_nil (w1 ((yR (ov_load rfl rfl ye trivial rfl rfl tok31) ?_)))
 refine yM ?_
 refine yM ?_
 refine yP (yV rfl rfl rfl Tryz.call196 (by apply c_castle_rook <;> exact yz)) ?_
 refine yM ?_
 refine yR (ov_extract rfl rfl rfl) ?_
 refine yR (ov_extract rfl rfl rfl) ?_
 refine yA_ ?_
 refine yA_ ?_
 refine RO_nil (W_seq (w1 ((yM ?_))))
 refine yR (ov_not rfl rfl) ?_
 refine RO_nil (W_cond rfl (fun hc1 => ?_) (fun hc1 => ?_))
 ·
  refine w2 (fun w0 => ?_)
  refine yL (ov_build (fs := fs54) (ds := []) rfl rfl bl55 trivial rfl) ?_
  refine LO_l rfl trivial (ol_sw0 rfl rfl rfl rfl yf tok55 ?_)
  refine zA ?_
  refine LO_nil (W_ret ⟨trivial, yc, (ResV_cell_tmp rfl rfl ye rfl tok55 rfl ?_)⟩)
  first | exact may_no (by simpa using hc1) | exact may_yes hok
 ·
  have hok : (rookP p king side).2 = true := by simpa using hc1
  have hr7 := hrr hok
  refine W_skip (w2 (fun w0 => ?_))
  refine yQ (yV rfl rfl rfl Tryz.call165 (by apply c_castle_goals <;> exact yz)) ?_
  refine zM ?_
  refine yL (ov_index (t := (.ar 2 (.ar 2 i64))) rfl rfl yf rfl rfl Tryz.underlying164 ya ya (tn ya ya) rfl rfl rfl tok92) ?_
  refine LO_l rfl (by decide : 10 < 81) (ol_alloc (t := (.ar 2 i64)) rfl tok92 yf (fun b3 => ?_))
  refine LO_l rfl trivial (ol_sw0 rfl rfl rfl rfl yf tok92 ?_)
  refine LO_nil (W_seq (W_regd mixed yk ?_))
  refine yR (ov_fieldAddr rfl rfl fa31_4 rfl) ?_
  refine yR (ov_load rfl rfl ye ⟨trivial, yn⟩ rfl rfl tok5) ?_
  refine yP (yV rfl rfl rfl Tryz.call159 (by apply c_castle_home <;> exact yz)) ?_
  refine yR (ov_indexAddr rfl rfl rfl Tryz.underlying92 rfl Tryz.sizeOf3 ya ya) ?_
  refine yR (ov_load rfl rfl ye ⟨trivial, (tn ya ya)⟩ rfl rfl tok3) ?_
  refine yR (ov_add rfl rfl rfl ya) ?_
  refine yR (ov_fieldAddr rfl rfl fa31_4 rfl) ?_
  refine yR (ov_load rfl rfl ye ⟨trivial, yn⟩ rfl rfl tok5) ?_
  refine yP (yV rfl rfl rfl Tryz.call159 (by apply c_castle_home <;> exact yz)) ?_
  refine yR (ov_indexAddr rfl rfl rfl Tryz.underlying92 rfl Tryz.sizeOf3 ya ya) ?_
  refine yR (ov_load rfl rfl ye ⟨trivial, (tn ya ya)⟩ rfl rfl tok3) ?_
  refine yR (ov_add rfl rfl rfl ya) ?_
  refine yA_ ?_
  refine yA_ ?_
  refine RO_nil (w2 (fun w0 => ?_))
  refine yL (ov_load rfl rfl ye trivial rfl rfl tok31) ?_
  refine LO_l rfl (by decide : 13 < 81) (ol_alloc (t := posT) rfl tok31 yf (fun b4 => ?_))
  refine LO_l rfl trivial (ol_sw0 rfl rfl rfl rfl yf tok31 ?_)
  refine LO_nil (w2 (fun w0 => ?_))
  refine zM ?_
  refine zM ?_
  refine yL (ov_fieldAddr rfl rfl fa31_1 rfl) ?_
  refine yL (ov_indexAddr rfl rfl rfl Tryz.underlying22 rfl Tryz.sizeOf5 ya ya) ?_
  refine LO_l rfl trivial (ol_st0 rfl rfl rfl ⟨⟨trivial, yn⟩, (tn ya ya)⟩ rfl yf tok5 ?_)
  refine yL (ov_fieldAddr rfl rfl fa31_1 rfl) ?_
  refine yL (ov_indexAddr rfl rfl rfl Tryz.underlying22 rfl Tryz.sizeOf5 ya ya) ?_
  refine LO_l rfl trivial (ol_st0 rfl rfl rfl ⟨⟨trivial, yn⟩, (tn ya ya)⟩ rfl yf tok5 ?_)
  show LO _ _ _ _ _ _ _ _ (.box b4 31 posT (putB (putB p king 0) (rookP p king side).1 0) :: .box b3 92 (.ar 2 i64) (goalsT.getD side.toNat (zero (.ar 2 i64))) :: .box b2 55 moveT (zero moveT) :: .box b1 31 posT p :: M)
  refine LO_nil (w2 (fun w0 => ?_))
  refine yL (ov_load rfl rfl ye trivial rfl rfl tok31) ?_
  refine yQ (yV rfl rfl rfl Tryz.call162 (c_board_All _ hqq _)) ?_
  refine LO_l rfl (by decide : 14 < 81) (ol_alloc (t := u64) rfl tok23 yf (fun b5 => ?_))
  refine LO_l rfl trivial (ol_sw0 rfl rfl rfl rfl yf tok23 ?_)
  refine LO_nil (w1 ((yR (ov_makeFunc rfl rfl rfl) ?_)))
  refine yA_ ?_
  refine RO_nil (w2 (fun w0 => ?_))
  refine yL (ov_load rfl rfl ye trivial rfl rfl tok31) ?_
  refine yL (ov_fieldAddr rfl rfl fa31_4 rfl) ?_
  refine yL (ov_load rfl rfl ye ⟨trivial, yn⟩ rfl rfl tok5) ?_
  refine yL (ov_sub rfl rfl rfl ya) ?_
  refine yQ (yV rfl rfl rfl Tryz.call117 xavy) ?_
  refine LO_l rfl (by decide : 16 < 81) (ol_alloc (t := u64) rfl tok23 yf (fun b6 => ?_))
  refine LO_l rfl trivial (ol_sw0 rfl rfl rfl rfl yf tok23 ?_)
  refine LO_nil (w1 ((yR (ov_makeFunc rfl rfl rfl) ?_)))
  refine yA_ ?_
  refine RO_nil (w1 ((yM ?_)))
  refine yM ?_
  refine yM ?_
  refine yP (yV rfl rfl rfl Tryz.call199 (c_castle_all _ _ 197 [ptrv b5 u64 []] (noneAt (allB (putB (putB p king 0) (rookP p king side).1 0))) _ Tryz.call197 (fun s hs0 hs1 => c_castle_may_1 s b5 _ _ _ ye hs0 hs1) h0 h1 yo yo)) ?_
  refine yM ?_
  refine gM ?_
  refine gM ?_
  refine gM ?_
  refine yG (fun hg => yV rfl rfl (looks_cons (look_gv rfl (bq hg)) (looks_cons (look_gv rfl (bq hg)) (looks_cons (look_gv rfl (bq hg)) looks_nil))) Tryz.call199 (c_castle_all _ _ 197 [ptrv b5 u64 []] (noneAt (allB (putB (putB p king 0) (rookP p king side).1 0))) _ Tryz.call197 (fun s hs0 hs1 => c_castle_may_1 s b5 _ _ _ ye hs0 hs1) yo yo yo yo)) ?_
  refine yR (ov_and rfl rfl rfl rfl (fun h => bq h)) ?_
  refine yM ?_
  refine gM ?_
  refine gM ?_
  refine gM ?_
  refine yG (fun hg => yV rfl rfl (looks_cons (look_gv rfl (bq hg)) (looks_cons (look_gv rfl (bq hg)) (looks_cons (look_gv rfl (bq hg)) looks_nil))) Tryz.call199 (c_castle_all _ _ 198 [ptrv b1 posT [], ptrv b6 u64 [], ptrv b4 posT []] (safeP p (putB (putB p king 0) (rookP p king side).1 0) (ofB p (1 - tu p) 6)) _ Tryz.call198 (fun s hs0 hs1 => c_castle_may_2 p hp s b1 b6 b4 _ _ _ _ hqq _ _ ye ye ye ye ht hs0 hs1) h0 h1 yo yo)) ?_
  refine yR (ov_and rfl rfl rfl rfl (fun h => bq h)) ?_
  refine yA_ ?_
  refine RO_nil (w2 (fun w0 => ?_))
  refine zM ?_
  refine yL (ov_convn rfl rfl Tryz.underlying3 Tryz.underlying26 ya) ?_
  refine zM ?_
  refine yL (ov_convn rfl rfl Tryz.underlying3 Tryz.underlying26 ya) ?_
  refine yL (ov_build (fs := fs54) (ds := [⟨0, _⟩, ⟨1, _⟩, ⟨4, _⟩]) rfl rfl bl55 ⟨yn, yf, ⟨yn, yf, ⟨yn, yf, trivial⟩⟩⟩ rfl) ?_
  refine zM ?_
  refine LO_l rfl trivial (ol_sw4 rfl rfl rfl rfl yf tok55 ?_)
  refine zA ?_
  refine LO_nil (W_ret ⟨trivial, yc, (ResV_cell_tmp rfl rfl ye rfl tok55 rfl ?_)⟩)
  first | exact may_no (by simpa using hc1) | exact may_yes hok
end Go.Kw
set_option linter.unusedVariables false
namespace Go.Kw
open Go.Proofs
theorem ap48 : AppOK Tryz.prog 48 55 moveT 5 := ⟨⟨_, Tryz.underlying48, rfl, rfl, rfl, rfl⟩, by decide⟩
theorem fa55_0 : FA Tryz.prog 55 0 0 := fun a w => by simp [Instr.fieldAt, Tryz.runUnderlying55, Instr.sureAddr, fieldPlace, Tryz.sizeOf26]
theorem fa55_1 : FA Tryz.prog 55 1 1 := fun a w => by simp [Instr.fieldAt, Tryz.runUnderlying55, Instr.sureAddr, fieldPlace, Tryz.sizeOf26]
theorem fa55_4 : FA Tryz.prog 55 4 4 := fun a w => by simp [Instr.fieldAt, Tryz.runUnderlying55, Instr.sureAddr, fieldPlace, Tryz.sizeOf4]

def mF (m : Mv) : Int := m.1
def mT (m : Mv) : Int := m.2.1
def mP (m : Mv) : Int := m.2.2.1
def mD (m : Mv) : Int := m.2.2.2.1
def mC (m : Mv) : Bool := m.2.2.2.2.1
structure MOK (m : Mv) : Prop where
  f : -128 ≤ mF m ∧ mF m ≤ 127
  t : -128 ≤ mT m ∧ mT m ≤ 127
  p : 0 ≤ mP m ∧ mP m ≤ 255
  d : 0 ≤ mD m ∧ mD m ≤ 255
def castK (p : Pos) : Int := firstB (ofB p (tu p) 6)
def sideL (i : Nat) : Int := ([1, 0] : List Int).getD i 0
theorem side_rng (i : Nat) (h : i < 2) : 0 ≤ sideL i ∧ sideL i ≤ 1 := by
  have : i = 0 ∨ i = 1 := by omega
  rcases this with rfl | rfl <;> decide
def outC (p : Pos) : Nat → List Mv
  | 0 => []
  | n + 1 => outC p n ++ (if (mayP p (castK p) (sideL n)).2 = true then [(mayP p (castK p) (sideL n)).1] else [])
theorem outC_yes {p : Pos} {n : Nat} (h : (mayP p (castK p) (sideL n)).2 = true) : outC p (n + 1) = outC p n ++ [(mayP p (castK p) (sideL n)).1] := by
  rw [outC, if_pos h]
theorem outC_no {p : Pos} {n : Nat} (h : (mayP p (castK p) (sideL n)).2 = false) : outC p (n + 1) = outC p n := by
  rw [outC, if_neg (by simp [h])]; exact List.append_nil _
theorem outC_len (p : Pos) : ∀ n, (outC p n).length ≤ n
  | 0 => Nat.le_refl _
  | n + 1 => by
    have := outC_len p n
    by_cases h : (mayP p (castK p) (sideL n)).2 = true
    · rw [outC_yes h]
      show (List.append _ _).length ≤ _
      simp only [List.append_eq, List.length_append, List.length_cons, List.length_nil]; omega
    · rw [outC_no (by simpa using h)]; omega
def castleL (p : Pos) : List Mv := if (decide (1 < tu p) || !castlesP (vr p)) = true then [] else if (decide (castK p < 0) || !decide (castK p / 8 = 56 * tu p / 8)) = true then [] else outC p 2
theorem castleL_a {p : Pos} (h : (decide (1 < tu p) || !castlesP (vr p)) = true) : castleL p = [] := by unfold castleL; rw [if_pos h]
theorem castleL_b {p : Pos} (h : (decide (1 < tu p) || !castlesP (vr p)) = false) (h2 : (decide (castK p < 0) || !decide (castK p / 8 = 56 * tu p / 8)) = true) : castleL p = [] := by unfold castleL; rw [if_neg (by simp [h]), if_pos h2]
theorem castleL_c {p : Pos} (h : (decide (1 < tu p) || !castlesP (vr p)) = false) (h2 : (decide (castK p < 0) || !decide (castK p / 8 = 56 * tu p / 8)) = false) : castleL p = outC p 2 := by unfold castleL; rw [if_neg (by simp [h]), if_neg (by simp [h2])]
def ftL (m : Mv) (i : Nat) : Int := ([mF m, mT m] : List Int).getD i 0
theorem ft_rng {m : Mv} (hm : MOK m) (i : Nat) : -128 ≤ ftL m i ∧ ftL m i ≤ 127 := by
  have h1 := hm.f; have h2 := hm.t
  match i with
  | 0 => exact h1
  | 1 => exact h2
  | n + 2 => exact ⟨by show (-128 : Int) ≤ 0; decide, by show (0 : Int) ≤ 127; decide⟩
def inHome (p : Pos) (s : Int) : Bool := !(decide (s - 56 * tu p < 0) || decide (7 < s - 56 * tu p))
theorem home_step {p : Pos} {m : Mv} {i : Nat} (hH : ∀ j, j < i → inHome p (ftL m j) = true) (h : (decide (ftL m i - 56 * tu p < 0) || decide (7 < ftL m i - 56 * tu p)) = false) : ∀ j, j < i + 1 → inHome p (ftL m j) = true := fun j hj => by
  rcases Nat.lt_or_ge j i with h' | h'
  · exact hH j h'
  · rw [show j = i by omega]; unfold inHome; rw [h]; rfl
def sideP (p : Pos) (m : Mv) : Int := if ((decide (1 < tu p) || !mC m) || decide (mF m = mT m)) = true then -1 else if (inHome p (mF m) && inHome p (mT m)) = true then (if mF m < mT m then 0 else 1) else -1
theorem side_a {p : Pos} {m : Mv} (h : ((decide (1 < tu p) || !mC m) || decide (mF m = mT m)) = true) : sideP p m = -1 := by unfold sideP; rw [if_pos h]
theorem side_b {p : Pos} {m : Mv} {i : Nat} (h : ((decide (1 < tu p) || !mC m) || decide (mF m = mT m)) = false) (hi : i < 2) (h2 : (decide (ftL m i - 56 * tu p < 0) || decide (7 < ftL m i - 56 * tu p)) = true) : sideP p m = -1 := by
  unfold sideP
  rw [if_neg (by simp [h]), if_neg]
  have hb : inHome p (ftL m i) = false := by unfold inHome; rw [h2]; rfl
  have : i = 0 ∨ i = 1 := by omega
  rcases this with rfl | rfl
  · rw [show inHome p (mF m) = false from hb]; simp
  · rw [show inHome p (mT m) = false from hb]; simp
theorem side_e {p : Pos} {m : Mv} {i : Nat} (h : ((decide (1 < tu p) || !mC m) || decide (mF m = mT m)) = false) (hH : ∀ j, j < i → inHome p (ftL m j) = true) (hi : 2 ≤ i) : sideP p m = if mF m < mT m then 0 else 1 := by
  unfold sideP
  rw [if_neg (by simp [h]), if_pos]
  rw [show inHome p (mF m) = true from hH 0 yo, show inHome p (mT m) = true from hH 1 yo]; rfl
theorem side_c {p : Pos} {m : Mv} {i : Nat} (h : ((decide (1 < tu p) || !mC m) || decide (mF m = mT m)) = false) (hH : ∀ j, j < i → inHome p (ftL m j) = true) (hi : 2 ≤ i) (hl : mF m < mT m) : sideP p m = 0 := by
  rw [side_e h hH hi, if_pos hl]
theorem side_d {p : Pos} {m : Mv} {i : Nat} (h : ((decide (1 < tu p) || !mC m) || decide (mF m = mT m)) = false) (hH : ∀ j, j < i → inHome p (ftL m j) = true) (hi : 2 ≤ i) (hl : mT m ≤ mF m) : sideP p m = 1 := by
  rw [side_e h hH hi, if_neg yo]
theorem sideP_rng (p : Pos) (m : Mv) : -1 ≤ sideP p m ∧ sideP p m ≤ 1 := by
  unfold sideP; (repeat split) <;> omega
def goalsP (p : Pos) (m : Mv) : Int × Int × Bool := if sideP p m < 0 then (0, 0, false) else (56 * tu p + goalP (sideP p m) 0, 56 * tu p + goalP (sideP p m) 1, true)
theorem goals_no {p : Pos} {m : Mv} (h : sideP p m < 0) : Value.tuple #[.int .i64 0, .int .i64 0, .bool false] = .tuple #[.int .i64 (goalsP p m).1, .int .i64 (goalsP p m).2.1, .bool (goalsP p m).2.2] := by unfold goalsP; rw [if_pos h]
theorem goals_yes {p : Pos} {m : Mv} (h : 0 ≤ sideP p m) : Value.tuple #[.int .i64 (56 * tu p + goalP (sideP p m) 0), .int .i64 (56 * tu p + goalP (sideP p m) 1), .bool true] = .tuple #[.int .i64 (goalsP p m).1, .int .i64 (goalsP p m).2.1, .bool (goalsP p m).2.2] := by unfold goalsP; rw [if_neg yo]

theorem c_castle_List (p : Pos) (hp : POK p) (M : List Fact) (hT : TAB ∈ M) : Con Tryz.prog 102 [enc posT p] M (fun v M' => M' = .row v 55 moveT (castleL p) :: M) := by
 obtain ⟨hb, hpw, hvr, htu, hpg, hvr0, htu0⟩ := hp.head
 have hkr := firstB_rng (ofB p (tu p) 6)
 have hkr0 := hkr
 simp only [tu] at hkr0
 refine con_of_W (n := 53) Tryz.func102 rfl rfl yn ?_
 refine w2 (fun w0 => ?_)
 refine LO_l rfl (by decide : 1 < 53) (ol_box (t := posT) rfl rfl rfl yf (fun b1 => ?_))
 refine zA ?_
 refine LO_nil (W_seq (W_seq (W_row 55 moveT ?_)))
 refine W_reg (yR (ov_fieldAddr rfl rfl fa31_4 rfl) ?_)
 refine yR (ov_load rfl rfl ye ⟨trivial, yn⟩ rfl rfl tok5) ?_
 refine yR (ov_gtr rfl rfl rfl) ?_
 refine yM ?_
 refine yG (fun hg => OpX.v (ov_fieldAddr rfl rfl fa31_0 rfl)) ?_
 refine yG (fun hg => OpX.v (ov_load rfl (look_gv rfl (bq hg)) ye ⟨trivial, yn⟩ rfl rfl tok5)) ?_
 refine yG (fun hg => yV rfl rfl (looks_cons (look_gv rfl (bq hg)) looks_nil) Tryz.call138 (by apply c_rules_Castles <;> exact yz)) ?_
 refine yG (fun hg => OpX.v (ov_not rfl (look_gv rfl (bq hg)))) ?_
 refine yR (ov_or rfl rfl rfl rfl (fun h => bq h)) ?_
 refine RO_nil (W_cond rfl (fun hc1 => ?_) (fun hc1 => ?_))
 ·
  refine w1 ((yA_ ?_))
  refine RO_nil (W_ret ⟨trivial, _, .row _ 55 moveT (castleL p) :: M, (ResV_tmp1 rfl rfl rfl), ?_, rfl⟩)
  first | (rw [castleL_a hc1]; exact yc) | (rw [castleL_b hc1 hc2]; exact yc) | (rw [castleL_c hc1 hc2, show 2 = i by omega]; exact yc)
 ·
  have ht1 : tu p ≤ 1 := Int.not_lt.1 (of_decide_eq_false (Bool.or_eq_false_iff.1 hc1).1)
  have ht2 := ht1
  simp only [tu] at ht2
  refine W_skip (w1 ((yR (ov_load rfl rfl ye trivial rfl rfl tok31) ?_)))
  refine yR (ov_fieldAddr rfl rfl fa31_4 rfl) ?_
  refine yR (ov_load rfl rfl ye ⟨trivial, yn⟩ rfl rfl tok5) ?_
  refine yP (yV rfl rfl rfl Tryz.call115 (by apply c_board_Find <;> exact yz)) ?_
  refine yA_ ?_
  refine RO_nil (W_seq (w1 ((yM ?_))))
  refine yR (ov_lss rfl rfl rfl) ?_
  refine yM ?_
  refine gM ?_
  refine RO_g1 rfl rfl rfl rfl rfl yd (fun hg => by have hgx := hg; (try simp only [yS] at hgx); exact OpX.v (ov_quo_pos rfl (look_gv rfl (bq hg)) rfl ya ya ya)) ?_
  refine yG (fun hg => OpX.v (ov_fieldAddr rfl rfl fa31_4 rfl)) ?_
  refine yG (fun hg => OpX.v (ov_load rfl (look_gv rfl (bq hg)) ye ⟨trivial, yn⟩ rfl rfl tok5)) ?_
  refine yG (fun hg => yV rfl rfl (looks_cons (look_gv rfl (bq hg)) looks_nil) Tryz.call159 (by apply c_castle_home <;> exact yz)) ?_
  refine RO_g1 rfl rfl rfl rfl rfl yd (fun hg => by have hgx := hg; (try simp only [yS] at hgx); exact OpX.v (ov_quo_pos rfl (look_gv rfl (bq hg)) rfl ya ya ya)) ?_
  refine yG (fun hg => OpX.v (ov_neq rfl (look_gv rfl (bq hg)) (look_gv rfl (bq hg)))) ?_
  refine yR (ov_or rfl rfl rfl rfl (fun h => bq h)) ?_
  refine RO_nil (W_cond rfl (fun hc2 => ?_) (fun hc2 => ?_))
  ·
   refine w1 ((yA_ ?_))
   refine RO_nil (W_ret ⟨trivial, _, .row _ 55 moveT (castleL p) :: M, (ResV_tmp1 rfl rfl rfl), ?_, rfl⟩)
   first | (rw [castleL_a hc1]; exact yc) | (rw [castleL_b hc1 hc2]; exact yc) | (rw [castleL_c hc1 hc2, show 2 = i by omega]; exact yc)
  ·
   have hk0 : 0 ≤ castK p := Int.not_lt.1 (of_decide_eq_false (Bool.or_eq_false_iff.1 hc2).1)
   refine W_skip (w1 ((yA_ ?_)))
   refine RO_nil (W_seq (w2 (fun w0 => ?_)))
   refine LO_l rfl (by decide : 33 < 53) (ol_buildSlice (t := i64) (xs := [_, _]) rfl rfl rfl Tryz.underlying132 tok3 xaey yd yd yd (fun v1 => ?_))
   refine yL (ov_len rfl rfl xahy Tryz.underlying132) ?_
   refine zM ?_
   refine LO_nil (W_block (W_loop (σ := Nat × Value) (fun s => s.1 ≤ 2) (fun s => [(1, ptrv b1 posT []), (33, v1), (3, .int .i64 (castK p)), (34, .int .i64 2), (35, .int .i64 (s.1 : Int)), (4, s.2)]) (fun s => .row v1 3 i64 [1, 0] :: .row s.2 55 moveT (outC p s.1) :: .box b1 31 posT p :: M) (fun s => 2 - s.1) ((0, .slice none 0 0)) (by simp) ⟨rfl, rfl, rfl, rfl, rfl, rfl, trivial⟩ yc ?_))
   rintro ⟨i, v⟩ hI
   simp only at hI
   refine w1 ((yR (ov_lss rfl rfl rfl) ?_))
   refine RO_nil (W_seq (W_cond rfl (fun hc3 => ?_) (fun hc3 => ?_)))
   ·
    try simp only [yS] at hc3
    have hs := side_rng i yo
    have hol := outC_len p i
    have hix : ((((i, v) : Nat × Value).1 : Nat) : Int).toNat < ([1, 0] : List (El i64)).length := by show ((i : Nat) : Int).toNat < 2; omega
    refine W_skip (W_seq (W_block (w1 ((yR (ov_indexAddr_sl (t := i64) rfl rfl xahy rfl Tryz.underlying132 Tryz.sizeOf3 ya ya) ?_)))))
    refine yR (ov_load_e (t := i64) (p := []) rfl rfl xahy ya trivial rfl rfl tok3) ?_
    refine yA_ ?_
    refine RO_nil (w2 (fun w0 => ?_))
    refine yL (ov_load rfl rfl ye trivial rfl rfl tok31) ?_
    refine zM ?_
    refine zM ?_
    refine yQ (yV rfl rfl rfl Tryz.call160 (c_castle_may p hp (castK p) (sideL i) _ ye ht1 hk0 hkr.2 hs.1 hs.2)) ?_
    refine zM ?_
    refine yL (ov_extract rfl rfl rfl) ?_
    refine yL (ov_extract rfl rfl rfl) ?_
    refine LO_l rfl (by decide : 7 < 53) (ol_alloc (t := moveT) rfl tok55 yf (fun b2 => ?_))
    refine LO_l rfl trivial (ol_sw0 rfl rfl rfl rfl yf tok55 ?_)
    refine zA ?_
    refine LO_nil (w1 ((yM ?_)))
    refine RO_nil (W_cond rfl (fun hc4 => ?_) (fun hc4 => ?_))
    ·
     try simp only [yS] at hc4
     refine W_regl (fun w0 => ?_)
     refine zM ?_
     refine yL (ov_load rfl rfl ye trivial rfl rfl tok55) ?_
     refine LO_l rfl (by decide : 49 < 53) (ol_buildSlice (t := moveT) (xs := [_]) rfl rfl rfl Tryz.underlying48 tok55 xaey yd yd yd (fun v2 => ?_))
     refine LO_l rfl (by decide : 50 < 53) (ol_ap3 (t := moveT) rfl rfl rfl xahy ap48 xafy xafy (fun v3 => ?_))
     refine zA ?_
     refine LO_nil (W_reg (yR (ov_add rfl rfl rfl ya) ?_))
     refine yM ?_
     refine RO_nil ?_
     exact ⟨(i + 1, _), xaly, xaly, ⟨rfl, rfl, rfl, rfl, rfl, rfl, trivial⟩, (by first | (rw [outC_yes yA]; exact yc) | (rw [outC_no yA]; exact yc))⟩
    ·
     try simp only [yS] at hc4
     refine W_skip (W_reg (yR (ov_add rfl rfl rfl ya) ?_))
     refine yM ?_
     refine RO_nil ?_
     exact ⟨(i + 1, _), xaly, xaly, ⟨rfl, rfl, rfl, rfl, rfl, rfl, trivial⟩, (by first | (rw [outC_yes yA]; exact yc) | (rw [outC_no yA]; exact yc))⟩
   ·
    try simp only [yS] at hc3
    refine W_exit (w1 ((yM ?_)))
    refine yA_ ?_
    refine RO_nil (W_ret ⟨trivial, _, .row _ 55 moveT (castleL p) :: M, (ResV_tmp1 rfl rfl rfl), ?_, rfl⟩)
    first | (rw [castleL_a hc1]; exact yc) | (rw [castleL_b hc1 hc2]; exact yc) | (rw [castleL_c hc1 hc2, show 2 = i by omega]; exact yc)

theorem c_castle_Side (p : Pos) (hp : POK p) (m : Mv) (hm : MOK m) (M : List Fact) : Pure Tryz.prog 164 [enc posT p, enc moveT m] M (.int .i64 (sideP p m)) := by
 obtain ⟨hb, hpw, hvr, htu, hpg, hvr0, htu0⟩ := hp.head
 have hmF := hm.f
 have hmT := hm.t
 have hmP := hm.p
 have hmD := hm.d
 have hmF0 := hm.f
 have hmT0 := hm.t
 have hmP0 := hm.p
 have hmD0 := hm.d
 simp only [mF] at hmF0
 simp only [mT] at hmT0
 simp only [mP] at hmP0
 simp only [mD] at hmD0
 refine pure_of_W (n := 51) Tryz.func164 rfl rfl yn ?_
 refine w2 (fun w0 => ?_)
 refine LO_l rfl (by decide : 2 < 51) (ol_box (t := posT) rfl rfl rfl yf (fun b1 => ?_))
 refine LO_l rfl (by decide : 3 < 51) (ol_box (t := moveT) rfl rfl rfl yf (fun b2 => ?_))
 refine zA ?_
 refine LO_nil (W_seq (w1 ((yR (ov_fieldAddr rfl rfl fa31_4 rfl) ?_))))
 refine yR (ov_load rfl rfl ye ⟨trivial, yn⟩ rfl rfl tok5) ?_
 refine yR (ov_gtr rfl rfl rfl) ?_
 refine yM ?_
 refine yG (fun hg => OpX.v (ov_fieldAddr rfl rfl fa55_4 rfl)) ?_
 refine yG (fun hg => OpX.v (ov_load rfl (look_gv rfl (bq hg)) ye ⟨trivial, yn⟩ rfl rfl tok4)) ?_
 refine yG (fun hg => OpX.v (ov_not rfl (look_gv rfl (bq hg)))) ?_
 refine yR (ov_or rfl rfl rfl rfl (fun h => bq h)) ?_
 refine yM ?_
 refine yG (fun hg => OpX.v (ov_fieldAddr rfl rfl fa55_0 rfl)) ?_
 refine yG (fun hg => OpX.v (ov_load rfl (look_gv rfl (bq hg)) ye ⟨trivial, yn⟩ rfl rfl tok26)) ?_
 refine yG (fun hg => OpX.v (ov_fieldAddr rfl rfl fa55_1 rfl)) ?_
 refine yG (fun hg => OpX.v (ov_load rfl (look_gv rfl (bq hg)) ye ⟨trivial, yn⟩ rfl rfl tok26)) ?_
 refine yG (fun hg => OpX.v (ov_eql rfl (look_gv rfl (bq hg)) (look_gv rfl (bq hg)))) ?_
 refine yR (ov_or rfl rfl rfl rfl (fun h => bq h)) ?_
 refine RO_nil (W_cond rfl (fun hc1 => ?_) (fun hc1 => ?_))
 ·
  refine w1 ((yA_ ?_))
  refine RO_nil (W_ret ⟨trivial, yc, (ResV_tmp1 rfl rfl ?_)⟩)
  exact val_int xary
 ·
  have ht1 : tu p ≤ 1 := Int.not_lt.1 (of_decide_eq_false (Bool.or_eq_false_iff.1 (Bool.or_eq_false_iff.1 hc1).1).1)
  have ht2 := ht1
  simp only [tu] at ht2
  refine W_skip (W_seq (w2 (fun w0 => ?_)))
  refine yL (ov_fieldAddr rfl rfl fa55_0 rfl) ?_
  refine yL (ov_load rfl rfl ye ⟨trivial, yn⟩ rfl rfl tok26) ?_
  refine yL (ov_fieldAddr rfl rfl fa55_1 rfl) ?_
  refine yL (ov_load rfl rfl ye ⟨trivial, yn⟩ rfl rfl tok26) ?_
  refine LO_l rfl (by decide : 27 < 51) (ol_buildSlice (t := i8) (xs := [_, _]) rfl rfl rfl Tryz.underlying189 tok26 xaey yd yd yd (fun v1 => ?_))
  refine yL (ov_len rfl rfl xahy Tryz.underlying189) ?_
  refine zM ?_
  refine LO_nil (W_block (W_loop (σ := Nat) (fun i => i ≤ 2 ∧ ∀ j, j < i → inHome p (ftL m j) = true) (fun i => [(2, ptrv b1 posT []), (3, ptrv b2 moveT []), (27, v1), (28, .int .i64 2), (29, .int .i64 (i : Int))]) (fun i => .row v1 26 i8 _ :: .box b2 55 moveT _ :: .box b1 31 posT _ :: M) (fun i => 2 - i) (0) ⟨by omega, fun j hj => absurd hj yo⟩ ⟨rfl, rfl, rfl, rfl, rfl, trivial⟩ yc ?_))
  rintro i ⟨hI, hH⟩
  refine w1 ((yR (ov_lss rfl rfl rfl) ?_))
  refine RO_nil (W_seq (W_cond rfl (fun hc2 => ?_) (fun hc2 => ?_)))
  ·
   try simp only [yS] at hc2
   have hx : -128 ≤ ([m.1, m.2.1] : List (El i8)).getD ((i : Nat) : Int).toNat (zero i8) ∧ ([m.1, m.2.1] : List (El i8)).getD ((i : Nat) : Int).toNat (zero i8) ≤ 127 := ft_rng hm i
   have hx1 : rng .i64 (([m.1, m.2.1] : List (El i8)).getD ((i : Nat) : Int).toNat (zero i8)) := by have := ft_rng hm i; show rng .i64 (ftL m i); simp only [rng]; omega
   have hx2 : rng .i64 ((([m.1, m.2.1] : List (El i8)).getD ((i : Nat) : Int).toNat (zero i8)) - 56 * p.2.2.2.2.1) := by have := ft_rng hm i; show rng .i64 (ftL m i - 56 * tu p); simp only [rng]; omega
   have hix : ((i : Nat) : Int).toNat < ([m.1, m.2.1] : List (El i8)).length := by show ((i : Nat) : Int).toNat < 2; omega
   refine W_skip (W_seq (W_block (w1 ((yR (ov_indexAddr_sl (t := i8) rfl rfl xahy rfl Tryz.underlying189 Tryz.sizeOf26 ya ya) ?_)))))
   refine yR (ov_load_e (t := i8) (p := []) rfl rfl xahy ya trivial rfl rfl tok26) ?_
   refine yA_ ?_
   refine RO_nil (w1 ((yM ?_)))
   refine yR (ov_convn rfl rfl Tryz.underlying26 Tryz.underlying3 ya) ?_
   refine yR (ov_fieldAddr rfl rfl fa31_4 rfl) ?_
   refine yR (ov_load rfl rfl ye ⟨trivial, yn⟩ rfl rfl tok5) ?_
   refine yP (yV rfl rfl rfl Tryz.call159 (by apply c_castle_home <;> exact yz)) ?_
   refine yR (ov_sub rfl rfl rfl ya) ?_
   refine yA_ ?_
   refine RO_nil (w1 ((yM ?_)))
   refine yR (ov_lss rfl rfl rfl) ?_
   refine yM ?_
   refine RO_g1 rfl rfl rfl rfl rfl yd (fun hg => by have hgx := hg; (try simp only [yS] at hgx); exact OpX.v (ov_move rfl rfl)) ?_
   refine RO_g1 rfl rfl rfl rfl rfl yd (fun hg => by have hgx := hg; (try simp only [yS] at hgx); exact OpX.v (ov_gtr rfl (look_gv rfl (bq hg)) rfl)) ?_
   refine yR (ov_or rfl rfl rfl rfl (fun h => bq h)) ?_
   refine RO_nil (W_cond rfl (fun hc3 => ?_) (fun hc3 => ?_))
   ·
    refine w1 ((yA_ ?_))
    refine RO_nil (W_ret ⟨trivial, yc, (ResV_tmp1 rfl rfl ?_)⟩)
    exact val_int xary
   ·
    refine W_skip (W_reg (yR (ov_add rfl rfl rfl ya) ?_))
    refine yM ?_
    refine RO_nil ?_
    exact ⟨i + 1, yo, ⟨by omega, home_step hH hc3⟩, ⟨rfl, rfl, rfl, rfl, rfl, trivial⟩, yc⟩
  ·
   try simp only [yS] at hc2
   refine W_exit (W_seq (w1 ((yR (ov_fieldAddr rfl rfl fa55_1 rfl) ?_))))
   refine yR (ov_load rfl rfl ye ⟨trivial, yn⟩ rfl rfl tok26) ?_
   refine yR (ov_fieldAddr rfl rfl fa55_0 rfl) ?_
   refine yR (ov_load rfl rfl ye ⟨trivial, yn⟩ rfl rfl tok26) ?_
   refine yR (ov_gtr rfl rfl rfl) ?_
   refine RO_nil (W_cond rfl (fun hc4 => ?_) (fun hc4 => ?_))
   ·
    try simp only [yS] at hc4
    refine w1 ((yA_ ?_))
    refine RO_nil (W_ret ⟨trivial, yc, (ResV_tmp1 rfl rfl ?_)⟩)
    exact val_int xary
   ·
    try simp only [yS] at hc4
    refine W_skip (w1 ((yA_ ?_)))
    refine RO_nil (W_ret ⟨trivial, yc, (ResV_tmp1 rfl rfl ?_)⟩)
    exact val_int xary

theorem c_castle_Goals (p : Pos) (hp : POK p) (m : Mv) (hm : MOK m) (M : List Fact) : Pure Tryz.prog 107 [enc posT p, enc moveT m] M (.tuple #[.int .i64 (goalsP p m).1, .int .i64 (goalsP p m).2.1, .bool (goalsP p m).2.2]) := by
 obtain ⟨hb, hpw, hvr, htu, hpg, hvr0, htu0⟩ := hp.head
 have hmF := hm.f
 have hmT := hm.t
 have hmP := hm.p
 have hmD := hm.d
 have hmF0 := hm.f
 have hmT0 := hm.t
 have hmP0 := hm.p
 have hmD0 := hm.d
 simp only [mF] at hmF0
 simp only [mT] at hmT0
 simp only [mP] at hmP0
 simp only [mD] at hmD0
 have hsr := sideP_rng p m
 have hgw := goalsT_wf
 have hge := goals_wf (sideP p m)
 refine pure_of_W (n := 29) Tryz.func107 rfl rfl yn ?_
 refine w2 (fun w0 => ?_)
 refine LO_l rfl (by decide : 2 < 29) (ol_box (t := posT) rfl rfl rfl yf (fun b1 => ?_))
 refine LO_l rfl (by decide : 3 < 29) (ol_box (t := moveT) rfl rfl rfl yf (fun b2 => ?_))
 refine zA ?_
 refine zA ?_
 refine zA ?_
 refine LO_nil (w1 ((yR (ov_load rfl rfl ye trivial rfl rfl tok31) ?_)))
 refine yR (ov_load rfl rfl ye trivial rfl rfl tok55) ?_
 refine yP (yV rfl rfl rfl Tryz.call164 (by apply c_castle_Side <;> exact yz)) ?_
 refine yA_ ?_
 refine RO_nil (W_seq (w1 ((yM ?_))))
 refine yR (ov_lss rfl rfl rfl) ?_
 refine RO_nil (W_cond rfl (fun hc1 => ?_) (fun hc1 => ?_))
 ·
  try simp only [yS] at hc1
  refine w1 ((yA_ ?_))
  refine yA_ ?_
  refine yA_ ?_
  refine RO_nil (W_ret ⟨trivial, yc, (ResV_tmp3q rfl rfl rfl rfl ?_)⟩)
  first | exact goals_no yA | exact goals_yes yA
 ·
  try simp only [yS] at hc1
  have hg0 := goal_rng (sideP p m) 0 yo yo
  have hg1 := goal_rng (sideP p m) 1 yo yo
  simp only [goalP] at hg0 hg1
  refine W_skip (w2 (fun w0 => ?_))
  refine yQ (yV rfl rfl rfl Tryz.call165 (by apply c_castle_goals <;> exact yz)) ?_
  refine zM ?_
  refine yL (ov_index (t := (.ar 2 (.ar 2 i64))) rfl rfl yf rfl rfl Tryz.underlying164 ya ya (tn ya ya) rfl rfl rfl tok92) ?_
  refine LO_l rfl (by decide : 8 < 29) (ol_alloc (t := (.ar 2 i64)) rfl tok92 yf (fun b3 => ?_))
  refine LO_l rfl trivial (ol_sw0 rfl rfl rfl rfl yf tok92 ?_)
  refine LO_nil (W_seq (W_regd mixed yk ?_))
  refine yR (ov_fieldAddr rfl rfl fa31_4 rfl) ?_
  refine yR (ov_load rfl rfl ye ⟨trivial, yn⟩ rfl rfl tok5) ?_
  refine yP (yV rfl rfl rfl Tryz.call159 (by apply c_castle_home <;> exact yz)) ?_
  refine yR (ov_indexAddr rfl rfl rfl Tryz.underlying92 rfl Tryz.sizeOf3 ya ya) ?_
  refine yR (ov_load rfl rfl ye ⟨trivial, (tn ya ya)⟩ rfl rfl tok3) ?_
  refine yR (ov_add rfl rfl rfl ya) ?_
  refine yR (ov_fieldAddr rfl rfl fa31_4 rfl) ?_
  refine yR (ov_load rfl rfl ye ⟨trivial, yn⟩ rfl rfl tok5) ?_
  refine yP (yV rfl rfl rfl Tryz.call159 (by apply c_castle_home <;> exact yz)) ?_
  refine yR (ov_indexAddr rfl rfl rfl Tryz.underlying92 rfl Tryz.sizeOf3 ya ya) ?_
  refine yR (ov_load rfl rfl ye ⟨trivial, (tn ya ya)⟩ rfl rfl tok3) ?_
  refine yR (ov_add rfl rfl rfl ya) ?_
  refine yA_ ?_
  refine yA_ ?_
  refine yA_ ?_
  refine RO_nil (W_ret ⟨trivial, yc, (ResV_tmp3q rfl rfl rfl rfl ?_)⟩)
  first | exact goals_no yA | exact goals_yes yA
end Go.Kw
set_option linter.unusedVariables false
namespace Go.Kw
open Go.Proofs
theorem ap43 : AppOK Tryz.prog 43 5 u8 1 := ⟨⟨_, Tryz.underlying43, rfl, rfl, rfl, rfl⟩, by decide⟩
theorem fa31_3 : FA Tryz.prog 31 3 66 := fun a w => by simp [Instr.fieldAt, Tryz.runUnderlying31, Instr.sureAddr, fieldPlace, Tryz.sizeOf25]

theorem bits_rng (b : BitVec 64) (j : Nat) : rng .i8 ((bitsOf b).getD ((j : Nat) : Int).toNat (zero i64)) := by
  have key : ∀ (l : List Int), (∀ x ∈ l, 0 ≤ x ∧ x < 64) → rng .i8 (l.getD j 0) := fun l h => by
    rw [List.getD_eq_getElem?_getD]
    cases hx : l[j]? with
    | none => simp [rng]
    | some x => have := h x (List.mem_of_getElem? hx); simp only [rng, Option.getD]; omega
  exact key _ fun x hx => by obtain ⟨i, h1, _, rfl⟩ := bitsOf_mem.1 hx; omega
theorem val_u8 {a b : Int} (h : a = b) : Value.int .u8 a = .int .u8 b := by rw [h]
theorem upto2_next (i : Nat) : upto2 (i + 1) = upto2 i ++ [(2 + (i : Int) : Int)] := by
  show upto2 i ++ [((2 + i : Nat) : Int)] = _
  rw [Int.natCast_add]; rfl
def onesI (b : BitVec 64) : Int := andI (IntKind.i64.wrap ((onesF b).toNat : Int)) 127
def pkAt (p : Pos) (c kd : Int) : Int := ((pk p).getD c.toNat (zero (.ar 6 u8))).getD kd.toNat (zero u8)
theorem pkAt_rng {p : Pos} (hp : POK p) (c kd : Int) : 0 ≤ pkAt p c kd ∧ pkAt p c kd ≤ 255 := getD2 (n := 6) hp.pk yd yd _ _
def setPk (p : Pos) (c kd x : Int) : Pos := (p.1, p.2.1, p.2.2.1, (show List (List Int) from p.2.2.2.1).set c.toNat (((show List (List Int) from p.2.2.2.1).getD c.toNat (zero (.ar 6 u8))).set kd.toNat x), p.2.2.2.2)
def addP (p : Pos) (c kd : Int) : Pos := if (((decide (c ≤ 1) && decide (1 ≤ kd)) && decide (kd ≤ 5)) && decide (pkAt p c kd < 255)) = true then setPk p c kd (pkAt p c kd + 1) else p
def takeP (p : Pos) (c kd : Int) : Pos × Bool := if (!((decide (c ≤ 1) && decide (1 ≤ kd)) && decide (kd ≤ 5)) || decide (pkAt p c kd = 0)) = true then (p, false) else (setPk p c kd (pkAt p c kd - 1), true)
theorem add_yes {p : Pos} {c kd : Int} (h : (((decide (c ≤ 1) && decide (1 ≤ kd)) && decide (kd ≤ 5)) && decide (pkAt p c kd < 255)) = true) : setPk p c kd (pkAt p c kd + 1) = addP p c kd := by unfold addP; rw [if_pos h]
theorem add_no {p : Pos} {c kd : Int} (h : (((decide (c ≤ 1) && decide (1 ≤ kd)) && decide (kd ≤ 5)) && decide (pkAt p c kd < 255)) = false) : p = addP p c kd := by unfold addP; rw [if_neg xasy]
theorem POK_setPk {p : Pos} (hp : POK p) (c kd : Int) {x : Int} (h0 : 0 ≤ x) (h1 : x ≤ 255) : POK (setPk p c kd x) := by
  have hw := hp.wf
  have key : ∀ (l : List (List Int)) (i j : Nat), (l.length = 2 ∧ ∀ q ∈ l, q.length = 6) → ((l.set i ((l.getD i (List.replicate 6 0)).set j x)).length = 2 ∧ ∀ q ∈ l.set i ((l.getD i (List.replicate 6 0)).set j x), q.length = 6) := fun l i j ⟨e1, e2⟩ => by
    refine ⟨by rw [List.length_set]; exact e1, fun q hq => ?_⟩
    rcases List.mem_or_eq_of_mem_set hq with h | h
    · exact e2 q h
    · rw [h, List.length_set, List.getD_eq_getElem?_getD]
      cases hx : l[i]? with
      | none => rfl
      | some y => exact e2 y (List.mem_of_getElem? hx)
  have key2 : ∀ (l : List (List Int)) (i j a k : Nat), (∀ a k, 0 ≤ (l.getD a []).getD k 0 ∧ (l.getD a []).getD k 0 ≤ 255) → 0 ≤ ((l.set i ((l.getD i (List.replicate 6 0)).set j x)).getD a []).getD k 0 ∧ ((l.set i ((l.getD i (List.replicate 6 0)).set j x)).getD a []).getD k 0 ≤ 255 := fun l i j a k hl => by
    rw [List.getD_eq_getElem?_getD (l := l.set i _), List.getElem?_set]
    split
    · split
      · rename_i h1 h2
        subst h1
        show 0 ≤ (List.set _ j x).getD k 0 ∧ (List.set _ j x).getD k 0 ≤ 255
        rw [List.getD_eq_getElem?_getD, List.getElem?_set]
        split
        · split
          · exact ⟨h0, h1⟩
          · simp
        · have e : l.getD i (List.replicate 6 0) = l.getD i [] := by simp [List.getD_eq_getElem?_getD, List.getElem?_eq_getElem h2]
          rw [e, ← List.getD_eq_getElem?_getD]; exact hl i k
      · simp
    · rw [← List.getD_eq_getElem?_getD]; exact hl a k
  have hk := key (show List (List Int) from p.2.2.2.1) c.toNat kd.toNat ⟨hw.2.2.2.1.1, fun q hq => (hw.2.2.2.1.2 q hq).1⟩
  exact ⟨⟨hw.1, hw.2.1, hw.2.2.1, ⟨hk.1, fun q hq => ⟨hk.2 q hq, fun _ _ => trivial⟩⟩, hw.2.2.2.2⟩, hp.board, hp.vr, hp.tu, hp.pg, hp.hf, hp.fl, fun a k => key2 (show List (List Int) from p.2.2.2.1) c.toNat kd.toNat a k hp.pk, hp.rk, hp.ck⟩
def dropW (p : Pos) (kd : Int) : BitVec 64 := if kd = 1 then ~~~allB p &&& 72057594037927680#64 else ~~~allB p
def dropM (kd s : Int) : Mv := (s, s, (0 : Int), kd, false, ())
def dropK (p : Pos) (kd : Int) : List Mv := if pkAt p (tu p) kd = 0 then [] else (show List Int from bitsOf (dropW p kd)).map (dropM kd)
def dropO (p : Pos) : Nat → List Mv
  | 0 => []
  | n + 1 => dropO p n ++ dropK p ((n : Int) + 1)
theorem dropK_len (p : Pos) (kd : Int) : (dropK p kd).length ≤ 64 := by
  unfold dropK; split
  · exact Nat.zero_le _
  · rw [List.length_map]; exact bitsOf_len _
theorem dropO_len (p : Pos) : ∀ n, (dropO p n).length ≤ 64 * n
  | 0 => Nat.le_refl _
  | n + 1 => by
    have h1 := dropO_len p n
    have h2 := dropK_len p ((n : Int) + 1)
    show (List.append (dropO p n) (dropK p ((n : Int) + 1))).length ≤ _
    rw [List.append_eq, List.length_append]; omega
def dropL (p : Pos) : List Mv := if (decide (1 < tu p) || !pocketsP (vr p)) = true then [] else dropO p 5
theorem dropL_a {p : Pos} (h : (decide (1 < tu p) || !pocketsP (vr p)) = true) : dropL p = [] := by unfold dropL; rw [if_pos h]
theorem dropL_b {p : Pos} (h : (decide (1 < tu p) || !pocketsP (vr p)) = false) : dropL p = dropO p 5 := by unfold dropL; rw [if_neg (by simp [h])]
theorem dropO_z {p : Pos} {i : Nat} (h : pkAt p (tu p) ((i : Int) + 1) = 0) : dropO p (i + 1) = dropO p i := by
  rw [dropO, dropK, if_pos h]; exact List.append_nil _
theorem dropO_n {p : Pos} {i : Nat} (h : ¬ pkAt p (tu p) ((i : Int) + 1) = 0) : dropO p (i + 1) = dropO p i ++ (show List Int from bitsOf (dropW p ((i : Int) + 1))).map (dropM ((i : Int) + 1)) := by
  rw [dropO, dropK, if_neg h]
def dropJ (p : Pos) (i j : Nat) : List Mv := dropO p i ++ ((show List Int from bitsOf (dropW p ((i : Int) + 1))).take j).map (dropM ((i : Int) + 1))
theorem dropJ_0 (p : Pos) (i : Nat) : dropJ p i 0 = dropO p i := by
  unfold dropJ; exact List.append_nil _
theorem dropJ_next {p : Pos} {i j : Nat} (h : j < (bitsOf (dropW p ((i : Int) + 1))).length) : dropJ p i (j + 1) = dropJ p i j ++ [dropM ((i : Int) + 1) ((bitsOf (dropW p ((i : Int) + 1))).getD ((j : Nat) : Int).toNat (zero i64))] := by
  have key : ∀ (l : List Int) (A : List Mv), j < l.length → A ++ (l.take (j + 1)).map (dropM ((i : Int) + 1)) = A ++ (l.take j).map (dropM ((i : Int) + 1)) ++ [dropM ((i : Int) + 1) (l.getD j 0)] := fun l A hl => by
    rw [List.getD_eq_getElem?_getD, List.getElem?_eq_getElem hl, List.append_assoc, List.map_take, List.map_take, List.take_add_one, List.getElem?_map, List.getElem?_eq_getElem hl]; rfl
  exact key _ _ h
theorem dropJ_end {p : Pos} {i j : Nat} (hn : ¬ pkAt p (tu p) ((i : Int) + 1) = 0) (h : (bitsOf (dropW p ((i : Int) + 1))).length ≤ j) : dropO p (i + 1) = dropJ p i j := by
  rw [dropO_n hn, dropJ, List.take_of_length_le h]
theorem dropJ_len {p : Pos} {i j : Nat} (hi : i ≤ 5) : (dropJ p i j).length ≤ 1000 := by
  have h1 := dropO_len p i
  have h2 := bitsOf_len (dropW p ((i : Int) + 1))
  have h3 : ((show List Int from bitsOf (dropW p ((i : Int) + 1))).take j).length ≤ 64 := Nat.le_trans (List.length_take_le' _ _) h2
  show (List.append (dropO p i) (List.map _ _)).length ≤ 1000
  rw [List.append_eq, List.length_append, List.length_map]; omega
theorem take_no {p : Pos} {c kd : Int} (h : (!((decide (c ≤ 1) && decide (1 ≤ kd)) && decide (kd ≤ 5)) || decide (pkAt p c kd = 0)) = true) : Value.tuple #[enc posT p, .bool false] = .tuple #[enc posT (takeP p c kd).1, .bool (takeP p c kd).2] := by unfold takeP; rw [if_pos h]
theorem take_yes {p : Pos} {c kd : Int} (h : (!((decide (c ≤ 1) && decide (1 ≤ kd)) && decide (kd ≤ 5)) || decide (pkAt p c kd = 0)) = false) : Value.tuple #[enc posT (setPk p c kd (pkAt p c kd - 1)), .bool true] = .tuple #[enc posT (takeP p c kd).1, .bool (takeP p c kd).2] := by unfold takeP; rw [if_neg xasy]

theorem c_drop_List (p : Pos) (hp : POK p) (M : List Fact) (hT : TAB ∈ M) : Con Tryz.prog 103 [enc posT p] M (fun v M' => M' = .row v 55 moveT (dropL p) :: M) := by
 obtain ⟨hb, hpw, hvr, htu, hpg, hvr0, htu0⟩ := hp.head
 refine con_of_W (n := 58) Tryz.func103 rfl rfl yn ?_
 refine w2 (fun w0 => ?_)
 refine LO_l rfl (by decide : 1 < 58) (ol_box (t := posT) rfl rfl rfl yf (fun b1 => ?_))
 refine zA ?_
 refine LO_nil (W_scope ?_)
 refine W_seq (W_seq (W_row 55 moveT ?_))
 refine W_reg (yR (ov_fieldAddr rfl rfl fa31_4 rfl) ?_)
 refine yR (ov_load rfl rfl ye ⟨trivial, yn⟩ rfl rfl tok5) ?_
 refine yR (ov_gtr rfl rfl rfl) ?_
 refine yM ?_
 refine yG (fun hg => OpX.v (ov_fieldAddr rfl rfl fa31_0 rfl)) ?_
 refine yG (fun hg => OpX.v (ov_load rfl (look_gv rfl (bq hg)) ye ⟨trivial, yn⟩ rfl rfl tok5)) ?_
 refine yG (fun hg => yV rfl rfl (looks_cons (look_gv rfl (bq hg)) looks_nil) Tryz.call161 (by apply c_rules_Pockets <;> exact yz)) ?_
 refine yG (fun hg => OpX.v (ov_not rfl (look_gv rfl (bq hg)))) ?_
 refine yR (ov_or rfl rfl rfl rfl (fun h => bq h)) ?_
 refine RO_nil (W_cond rfl (fun hc1 => ?_) (fun hc1 => ?_))
 ·
  refine w1 ((yA_ ?_))
  refine RO_nil (W_ret ⟨trivial, _, .row _ 55 moveT (dropL p) :: M, (ResV_tmp1 rfl rfl rfl), ?_, rfl⟩)
  first | (rw [dropL_a hc1]; exact yc) | (rw [dropL_b hc1, show 5 = i by omega]; exact yc)
 ·
  have ht1 : tu p ≤ 1 := Int.not_lt.1 (of_decide_eq_false (Bool.or_eq_false_iff.1 hc1).1)
  have ht2 := ht1
  simp only [tu] at ht2
  refine W_skip (w1 ((yA_ ?_)))
  refine RO_nil (W_seq (W_label (W_seq (w1 ((yM ?_))))))
  refine RO_nil (W_block (W_loop (σ := Nat × Value) (fun s => s.1 ≤ 5) (fun s => [(1, ptrv b1 posT []), (18, .int .i64 (s.1 : Int)), (3, s.2)]) (fun s => .row s.2 55 moveT (dropO p s.1) :: .box b1 31 posT p :: M) (fun s => 5 - s.1) ((0, .slice none 0 0)) (by simp) ⟨rfl, rfl, rfl, trivial⟩ yc ?_))
  rintro ⟨i, v⟩ hI
  simp only at hI
  have hol := dropO_len p i
  refine w1 ((yR (ov_lss rfl rfl rfl) ?_))
  refine RO_nil (W_seq (W_cond rfl (fun hc2 => ?_) (fun hc2 => ?_)))
  ·
   try simp only [yS] at hc2
   have hpr := pkAt_rng hp (tu p) ((i : Int) + 1)
   simp only [pkAt, pk, tu] at hpr
   refine W_skip (W_seq (W_block (w1 ((yM ?_)))))
   refine yA_ ?_
   refine RO_nil (w1 ((yM ?_)))
   refine yR (ov_add rfl rfl rfl ya) ?_
   refine yR (ov_convn rfl rfl Tryz.underlying3 Tryz.underlying5 ya) ?_
   refine yA_ ?_
   refine RO_nil (W_seq (w1 ((yR (ov_fieldAddr rfl rfl fa31_4 rfl) ?_))))
   refine yR (ov_load rfl rfl ye ⟨trivial, yn⟩ rfl rfl tok5) ?_
   refine yM ?_
   refine yR (ov_fieldAddr rfl rfl fa31_3 rfl) ?_
   refine yR (ov_indexAddr rfl rfl rfl Tryz.underlying25 rfl Tryz.sizeOf24 ya ya) ?_
   refine yR (ov_indexAddr rfl rfl rfl Tryz.underlying24 rfl Tryz.sizeOf5 ya ya) ?_
   refine yR (ov_load rfl rfl ye ⟨⟨⟨trivial, yn⟩, (tn ya ya)⟩, (tn ya ya)⟩ rfl rfl tok5) ?_
   refine yR (ov_eql rfl rfl rfl) ?_
   refine RO_nil (W_cond rfl (fun hc3 => ?_) (fun hc3 => ?_))
   ·
    try simp only [yS] at hc3
    refine W_exit (W_reg (yR (ov_add rfl rfl rfl ya) ?_))
    refine yM ?_
    refine RO_nil ?_
    exact ⟨(i + 1, _), xaly, xaly, ⟨rfl, rfl, rfl, trivial⟩, (by first | (rw [dropO_z yA]; exact yc) | (rw [dropJ_end (j := j) yA yo]; exact yc))⟩
   ·
    try simp only [yS] at hc3
    refine W_skip (w1 ((yR (ov_load rfl rfl ye trivial rfl rfl tok31) ?_)))
    refine yP (yV rfl rfl rfl Tryz.call162 (by apply c_board_All <;> exact yz)) ?_
    refine yR (ov_compl64 rfl rfl) ?_
    refine yA_ ?_
    refine RO_nil (W_seq (w1 ((yM ?_))))
    refine yR (ov_eql rfl rfl rfl) ?_
    refine RO_nil (W_cond rfl (fun hc4 => ?_) (fun hc4 => ?_))
    ·
     try simp only [yS] at hc4
     have hdw : dropW p ((i : Int) + 1) = ~~~allB p &&& 72057594037927680#64 := if_pos hc4
     refine W_reg (yM ?_)
     refine yR (ov_bits (b := 72057594037927680#64) rfl rfl rfl (.inl ⟨rfl, rfl⟩)) ?_
     refine yA_ ?_
     refine RO_nil (w2 (fun w0 => ?_))
     refine zM ?_
     refine LO_l rfl (by decide : 40 < 58) (ol_call (v0 := []) (v2 := []) rfl rfl rfl Tryz.call112 (Con.mono (by apply c_bits_List <;> exact yz) (fun vL M' h => ?_)))
     subst h
     rw [← hdw]
     refine yL (ov_len rfl rfl xahy Tryz.underlying132) ?_
     refine zM ?_
     refine LO_nil (W_block (W_loop (σ := Nat × Value) (fun s => s.1 ≤ (bitsOf (dropW p ((i : Int) + 1))).length) (fun s => [(1, ptrv b1 posT []), (18, .int .i64 (i : Int)), (5, .int .u8 ((i : Int) + 1)), (40, vL), (41, .int .i64 ((bitsOf (dropW p ((i : Int) + 1))).length : Int)), (42, .int .i64 (s.1 : Int)), (3, s.2)]) (fun s => .row vL 3 i64 (bitsOf (dropW p ((i : Int) + 1))) :: .row s.2 55 moveT (dropJ p i s.1) :: .box b1 31 posT p :: M) (fun s => (bitsOf (dropW p ((i : Int) + 1))).length - s.1) ((0, v)) (by simp) ⟨rfl, rfl, rfl, rfl, rfl, rfl, rfl, trivial⟩ (by show List.Sublist (_ :: Fact.row v 55 moveT (dropJ p i 0) :: _) _; rw [dropJ_0]; exact yc) ?_))
     rintro ⟨j, v5⟩ hJ
     simp only at hJ
     have hjl := @dropJ_len p i j yo
     refine w1 ((yR (ov_lss rfl rfl rfl) ?_))
     refine RO_nil (W_seq (W_cond rfl (fun hc5 => ?_) (fun hc5 => ?_)))
     ·
      try simp only [yS] at hc5
      have hbx := bits_rng (dropW p ((i : Int) + 1)) j
      have hb8 : rng .i8 ((bitsOf (dropW p ((i : Int) + 1))).getD ((((j, v5) : Nat × Value).1 : Nat) : Int).toNat (zero i64)) := hbx
      have hbj : rng .i64 (((((j, v5) : Nat × Value).1 : Nat) : Int) + 1) := by have := bitsOf_len (dropW p ((i : Int) + 1)); show rng .i64 ((j : Int) + 1); simp only [rng]; omega
      refine W_skip (W_seq (W_block (w1 ((yR (ov_indexAddr_sl (t := i64) rfl rfl xahy rfl Tryz.underlying132 Tryz.sizeOf3 ya ya) ?_)))))
      refine yR (ov_load_e (t := i64) (p := []) rfl rfl xahy ya trivial rfl rfl tok3) ?_
      refine yA_ ?_
      refine RO_nil (W_regl (fun w0 => ?_))
      refine zM ?_
      refine zM ?_
      refine yL (ov_convn rfl rfl Tryz.underlying3 Tryz.underlying26 ya) ?_
      refine zM ?_
      refine yL (ov_convn rfl rfl Tryz.underlying3 Tryz.underlying26 ya) ?_
      refine zM ?_
      refine yL (ov_build (fs := fs54) (ds := [⟨0, _⟩, ⟨1, _⟩, ⟨3, _⟩]) rfl rfl bl55 ⟨yn, yf, ⟨yn, yf, ⟨yn, yf, trivial⟩⟩⟩ rfl) ?_
      refine LO_l rfl (by decide : 53 < 58) (ol_buildSlice (t := moveT) (xs := [_]) rfl rfl rfl Tryz.underlying48 tok55 xaey yd yd yd (fun v1 => ?_))
      refine LO_l rfl (by decide : 54 < 58) (ol_ap2 (t := moveT) rfl rfl rfl xahy ap48 xafy xafy (fun v2 => ?_))
      refine zA ?_
      refine LO_nil (W_reg (yR (ov_add rfl rfl rfl ya) ?_))
      refine yM ?_
      refine RO_nil ?_
      exact ⟨(j + 1, _), xaly, xaly, ⟨rfl, rfl, rfl, rfl, rfl, rfl, rfl, trivial⟩, (by rw [dropJ_next yo]; exact yc)⟩
     ·
      try simp only [yS] at hc5
      refine W_exit (W_reg (yR (ov_add rfl rfl rfl ya) ?_))
      refine yM ?_
      refine RO_nil ?_
      exact ⟨(i + 1, _), xaly, xaly, ⟨rfl, rfl, rfl, trivial⟩, (by first | (rw [dropO_z yA]; exact yc) | (rw [dropJ_end (j := j) yA yo]; exact yc))⟩
    ·
     try simp only [yS] at hc4
     have hdw : dropW p ((i : Int) + 1) = ~~~allB p := if_neg hc4
     refine W_skip (w2 (fun w0 => ?_))
     refine zM ?_
     refine LO_l rfl (by decide : 40 < 58) (ol_call (v0 := []) (v2 := []) rfl rfl rfl Tryz.call112 (Con.mono (by apply c_bits_List <;> exact yz) (fun vL M' h => ?_)))
     subst h
     rw [← hdw]
     refine yL (ov_len rfl rfl xahy Tryz.underlying132) ?_
     refine zM ?_
     refine LO_nil (W_block (W_loop (σ := Nat × Value) (fun s => s.1 ≤ (bitsOf (dropW p ((i : Int) + 1))).length) (fun s => [(1, ptrv b1 posT []), (18, .int .i64 (i : Int)), (5, .int .u8 ((i : Int) + 1)), (40, vL), (41, .int .i64 ((bitsOf (dropW p ((i : Int) + 1))).length : Int)), (42, .int .i64 (s.1 : Int)), (3, s.2)]) (fun s => .row vL 3 i64 (bitsOf (dropW p ((i : Int) + 1))) :: .row s.2 55 moveT (dropJ p i s.1) :: .box b1 31 posT p :: M) (fun s => (bitsOf (dropW p ((i : Int) + 1))).length - s.1) ((0, v)) (by simp) ⟨rfl, rfl, rfl, rfl, rfl, rfl, rfl, trivial⟩ (by show List.Sublist (_ :: Fact.row v 55 moveT (dropJ p i 0) :: _) _; rw [dropJ_0]; exact yc) ?_))
     rintro ⟨j, v5⟩ hJ
     simp only at hJ
     have hjl := @dropJ_len p i j yo
     refine w1 ((yR (ov_lss rfl rfl rfl) ?_))
     refine RO_nil (W_seq (W_cond rfl (fun hc6 => ?_) (fun hc6 => ?_)))
     ·
      try simp only [yS] at hc6
      have hbx := bits_rng (dropW p ((i : Int) + 1)) j
      have hb8 : rng .i8 ((bitsOf (dropW p ((i : Int) + 1))).getD ((((j, v5) : Nat × Value).1 : Nat) : Int).toNat (zero i64)) := hbx
      have hbj : rng .i64 (((((j, v5) : Nat × Value).1 : Nat) : Int) + 1) := by have := bitsOf_len (dropW p ((i : Int) + 1)); show rng .i64 ((j : Int) + 1); simp only [rng]; omega
      refine W_skip (W_seq (W_block (w1 ((yR (ov_indexAddr_sl (t := i64) rfl rfl xahy rfl Tryz.underlying132 Tryz.sizeOf3 ya ya) ?_)))))
      refine yR (ov_load_e (t := i64) (p := []) rfl rfl xahy ya trivial rfl rfl tok3) ?_
      refine yA_ ?_
      refine RO_nil (W_regl (fun w0 => ?_))
      refine zM ?_
      refine zM ?_
      refine yL (ov_convn rfl rfl Tryz.underlying3 Tryz.underlying26 ya) ?_
      refine zM ?_
      refine yL (ov_convn rfl rfl Tryz.underlying3 Tryz.underlying26 ya) ?_
      refine zM ?_
      refine yL (ov_build (fs := fs54) (ds := [⟨0, _⟩, ⟨1, _⟩, ⟨3, _⟩]) rfl rfl bl55 ⟨yn, yf, ⟨yn, yf, ⟨yn, yf, trivial⟩⟩⟩ rfl) ?_
      refine LO_l rfl (by decide : 53 < 58) (ol_buildSlice (t := moveT) (xs := [_]) rfl rfl rfl Tryz.underlying48 tok55 xaey yd yd yd (fun v3 => ?_))
      refine LO_l rfl (by decide : 54 < 58) (ol_ap2 (t := moveT) rfl rfl rfl xahy ap48 xafy xafy (fun v4 => ?_))
      refine zA ?_
      refine LO_nil (W_reg (yR (ov_add rfl rfl rfl ya) ?_))
      refine yM ?_
      refine RO_nil ?_
      exact ⟨(j + 1, _), xaly, xaly, ⟨rfl, rfl, rfl, rfl, rfl, rfl, rfl, trivial⟩, (by rw [dropJ_next yo]; exact yc)⟩
     ·
      try simp only [yS] at hc6
      refine W_exit (W_reg (yR (ov_add rfl rfl rfl ya) ?_))
      refine yM ?_
      refine RO_nil ?_
      exact ⟨(i + 1, _), xaly, xaly, ⟨rfl, rfl, rfl, trivial⟩, (by first | (rw [dropO_z yA]; exact yc) | (rw [dropJ_end (j := j) yA yo]; exact yc))⟩
  ·
   try simp only [yS] at hc2
   refine W_exit (w1 ((yM ?_)))
   refine yA_ ?_
   refine RO_nil (W_ret ⟨trivial, _, .row _ 55 moveT (dropL p) :: M, (ResV_tmp1 rfl rfl rfl), ?_, rfl⟩)
   first | (rw [dropL_a hc1]; exact yc) | (rw [dropL_b hc1, show 5 = i by omega]; exact yc)

theorem c_rules_Promotes (vt : Int) (M : List Fact) (h0 : 0 ≤ vt) : Con Tryz.prog 215 [.int .u8 vt] M (fun v M' => M' = .row v 5 u8 (promP vt) :: M) := by
 have hlv := last_val h0
 have hsv := varOf_wf vt
 refine con_of_W (n := 17) Tryz.func215 rfl rfl yn ?_
 refine w1 ((yA_ ?_))
 refine RO_nil (w1 ((yA_ ?_)))
 refine RO_nil (W_seq (W_seq (W_row 5 u8 ?_)))
 refine W_reg (yA_ ?_)
 refine RO_nil (W_block (W_loop (σ := Nat × Value) (fun s => s.1 = 0 ∨ (s.1 : Int) + 1 ≤ lastP vt) (fun s => [(0, .int .u8 vt), (4, .int .u8 (2 + (s.1 : Int))), (3, s.2)]) (fun s => .row s.2 5 u8 (upto2 s.1) :: M) (fun s => 10 - s.1) ((0, .slice none 0 0)) (by simp) ⟨rfl, rfl, rfl, trivial⟩ yc ?_))
 rintro ⟨i, v⟩ hI
 simp only at hI
 have hil : i ≤ 6 := by (have : lastP vt ≤ 6 := by (rw [hlv]; (repeat split) <;> omega)); omega
 have hul := upto2_len i
 refine W_seq (w1 ((yM ?_)))
 refine yM ?_
 refine yP (yV rfl rfl rfl Tryz.call147 (by apply c_rules_of <;> exact yz)) ?_
 refine yR (ov_field (t := varTy) rfl rfl (varOf_wf vt) rfl Tryz.underlying151 rfl yn rfl rfl rfl tok5) ?_
 refine yR (ov_leq rfl rfl rfl) ?_
 refine RO_nil (W_cond rfl (fun hc1 => ?_) (fun hc1 => ?_))
 ·
  try simp only [yS] at hc1
  have hk1 : 2 + (i : Int) ≤ lastP vt := hc1
  refine W_skip (W_seq (W_block (W_regl (fun w0 => ?_))))
  refine zM ?_
  refine zM ?_
  refine LO_l rfl (by decide : 14 < 17) (ol_buildSlice (t := u8) (xs := [_]) rfl rfl rfl Tryz.underlying43 tok5 xaey yd yd yd (fun v1 => ?_))
  refine LO_l rfl (by decide : 15 < 17) (ol_ap1 (t := u8) rfl rfl rfl xahy ap43 xafy xafy (fun v2 => ?_))
  refine zA ?_
  refine LO_nil (W_reg (yM ?_))
  refine yR (ov_add rfl rfl rfl ya) ?_
  refine yA_ ?_
  refine RO_nil ?_
  exact ⟨(i + 1, _), xaly, (by right; show ((i + 1 : Nat) : Int) + 1 ≤ lastP vt; omega), ⟨rfl, congrArg some (val_u8 (by show 2 + (i : Int) + 1 = 2 + ((i + 1 : Nat) : Int); omega)), rfl, trivial⟩, (by show List.Sublist (.row v2 5 u8 (upto2 (i + 1)) :: M) _; rw [upto2_next]; exact yc)⟩
 ·
  try simp only [yS] at hc1
  refine W_exit (w1 ((yM ?_)))
  refine yA_ ?_
  refine RO_nil (W_ret ⟨trivial, _, .row _ 5 u8 (promP vt) :: M, (ResV_tmp1 rfl rfl rfl), ?_, rfl⟩)
  have hk2 : lastP vt < 2 + (i : Int) := hc1
  rw [prom_upto h0, show (lastP vt - 1).toNat = i by omega]; exact yc

theorem c_math_bits_OnesCount64 (b : BitVec 64) (M : List Fact) : Pure Tryz.prog 206 [u64v b] M (.int .i64 (onesI b)) := by
 refine pure_of_W (n := 35) Tryz.func206 rfl rfl yn ?_
 refine w1 ((yA_ ?_))
 refine RO_nil (w1 ((yM ?_)))
 refine yR (ov_shr64 rfl rfl rfl ya) ?_
 refine yR (ov_bits (b := 6148914691236517205#64) rfl rfl rfl (.inl ⟨rfl, rfl⟩)) ?_
 refine yM ?_
 refine yR (ov_bits (b := 6148914691236517205#64) rfl rfl rfl (.inl ⟨rfl, rfl⟩)) ?_
 refine yR (ov_arith64 rfl rfl rfl (.inl ⟨rfl, rfl⟩)) ?_
 refine yA_ ?_
 refine RO_nil (w1 ((yM ?_)))
 refine yR (ov_shr64 rfl rfl rfl ya) ?_
 refine yR (ov_bits (b := 3689348814741910323#64) rfl rfl rfl (.inl ⟨rfl, rfl⟩)) ?_
 refine yM ?_
 refine yR (ov_bits (b := 3689348814741910323#64) rfl rfl rfl (.inl ⟨rfl, rfl⟩)) ?_
 refine yR (ov_arith64 rfl rfl rfl (.inl ⟨rfl, rfl⟩)) ?_
 refine yA_ ?_
 refine RO_nil (w1 ((yM ?_)))
 refine yR (ov_shr64 rfl rfl rfl ya) ?_
 refine yM ?_
 refine yR (ov_arith64 rfl rfl rfl (.inl ⟨rfl, rfl⟩)) ?_
 refine yR (ov_bits (b := 1085102592571150095#64) rfl rfl rfl (.inl ⟨rfl, rfl⟩)) ?_
 refine yA_ ?_
 refine RO_nil (w1 ((yM ?_)))
 refine yM ?_
 refine yR (ov_shr64 rfl rfl rfl ya) ?_
 refine yR (ov_arith64 rfl rfl rfl (.inl ⟨rfl, rfl⟩)) ?_
 refine yA_ ?_
 refine RO_nil (w1 ((yM ?_)))
 refine yM ?_
 refine yR (ov_shr64 rfl rfl rfl ya) ?_
 refine yR (ov_arith64 rfl rfl rfl (.inl ⟨rfl, rfl⟩)) ?_
 refine yA_ ?_
 refine RO_nil (w1 ((yM ?_)))
 refine yM ?_
 refine yR (ov_shr64 rfl rfl rfl ya) ?_
 refine yR (ov_arith64 rfl rfl rfl (.inl ⟨rfl, rfl⟩)) ?_
 refine yA_ ?_
 refine RO_nil (w1 ((yM ?_)))
 refine yR (ov_conv rfl rfl Tryz.underlying23 Tryz.underlying3) ?_
 refine yR (ov_andI rfl rfl rfl) ?_
 refine yA_ ?_
 refine RO_nil (W_ret ⟨trivial, yc, (ResV_tmp1 rfl rfl ?_)⟩)
 rfl

theorem c_drop_fits (c kd : Int) (M : List Fact) : Pure Tryz.prog 166 [.int .u8 c, .int .u8 kd] M (.bool ((decide (c ≤ 1) && decide (1 ≤ kd)) && decide (kd ≤ 5))) := by
 refine pure_of_W (n := 15) Tryz.func166 rfl rfl yn ?_
 refine w1 ((yA_ ?_))
 refine RO_nil (w1 ((yM ?_)))
 refine yR (ov_leq rfl rfl rfl) ?_
 refine yM ?_
 refine gM ?_
 refine yG (fun hg => OpX.v (ov_geq rfl (look_gv rfl (bq hg)) rfl)) ?_
 refine yR (ov_and rfl rfl rfl rfl (fun h => bq h)) ?_
 refine yM ?_
 refine gM ?_
 refine yG (fun hg => OpX.v (ov_leq rfl (look_gv rfl (bq hg)) rfl)) ?_
 refine yR (ov_and rfl rfl rfl rfl (fun h => bq h)) ?_
 refine yA_ ?_
 refine RO_nil (W_ret ⟨trivial, yc, (ResV_tmp1 rfl rfl ?_)⟩)
 rfl

theorem c_drop_Add (p : Pos) (hp : POK p) (c kd : Int) (M : List Fact) (h0 : 0 ≤ c) (h1 : c ≤ 255) (h2 : 0 ≤ kd) (h3 : kd ≤ 255) : Pure Tryz.prog 111 [enc posT p, .int .u8 c, .int .u8 kd] M (enc posT (addP p c kd)) := by
 obtain ⟨hb, hpw, hvr, htu, hpg, hvr0, htu0⟩ := hp.head
 have hpr := pkAt_rng hp c kd
 simp only [pkAt, pk] at hpr
 refine pure_of_W (n := 30) Tryz.func111 rfl rfl yn ?_
 refine w2 (fun w0 => ?_)
 refine LO_l rfl (by decide : 3 < 30) (ol_box (t := posT) rfl rfl rfl yf (fun b1 => ?_))
 refine LO_l rfl (by decide : 6 < 30) (ol_alloc (t := posT) rfl tok31 yf (fun b2 => ?_))
 refine LO_nil (W_seq (w1 ((yM ?_))))
 refine yM ?_
 refine yP (yV rfl rfl rfl Tryz.call166 (by apply c_drop_fits <;> exact yz)) ?_
 refine yM ?_
 refine gM ?_
 refine gM ?_
 refine yG (fun hg => OpX.v (ov_fieldAddr rfl rfl fa31_3 rfl)) ?_
 refine RO_g1 rfl rfl rfl rfl rfl yd (fun hg => by have hgx := hg; (try simp only [yS] at hgx); exact OpX.v (ov_indexAddr rfl (look_gv rfl (bq hg)) (look_gv rfl (bq hg)) Tryz.underlying25 rfl Tryz.sizeOf24 ya ya)) ?_
 refine RO_g1 rfl rfl rfl rfl rfl yd (fun hg => by have hgx := hg; (try simp only [yS] at hgx); exact OpX.v (ov_indexAddr rfl (look_gv rfl (bq hg)) (look_gv rfl (bq hg)) Tryz.underlying24 rfl Tryz.sizeOf5 ya ya)) ?_
 refine RO_g1 rfl rfl rfl rfl rfl yd (fun hg => by have hgx := hg; (try simp only [yS] at hgx); exact OpX.v (ov_load rfl (look_gv rfl (bq hg)) ye ⟨⟨⟨trivial, yn⟩, (tn ya ya)⟩, (tn ya ya)⟩ rfl rfl tok5)) ?_
 refine yG (fun hg => OpX.v (ov_lss rfl (look_gv rfl (bq hg)) rfl)) ?_
 refine yR (ov_and rfl rfl rfl rfl (fun h => bq h)) ?_
 refine RO_nil (W_cond rfl (fun hc1 => ?_) (fun hc1 => ?_))
 ·
  have hws : wf posT (setPk p c kd (pkAt p c kd + 1)) := (POK_setPk hp c kd (by simp only [pkAt, pk]; omega) (by have := (Bool.and_eq_true_iff.1 hc1).2; have := of_decide_eq_true this; simp only [pkAt, pk]; omega)).wf
  have hc2 := hc1
  simp only [yS] at hc2
  refine W_regD (fun i => !Nat.beq i 10) mixed (fun w0 => ?_)
  refine D_mem0 (i := 0) rfl yk yk rfl rfl yd (ov_move rfl rfl) ?_
  refine D_mem0 (i := 1) rfl yk yk rfl rfl yd (ov_move rfl rfl) ?_
  refine D_mem0 (i := 2) rfl yk yk rfl rfl yd (ov_fieldAddr rfl rfl fa31_3 rfl) ?_
  refine D_mem0 (i := 3) rfl yk yk rfl rfl yd (ov_indexAddr rfl rfl rfl Tryz.underlying25 rfl Tryz.sizeOf24 ya ya) ?_
  refine D_mem0 (i := 4) rfl yk yk rfl rfl yd (ov_indexAddr rfl rfl rfl Tryz.underlying24 rfl Tryz.sizeOf5 ya ya) ?_
  refine D_mem0 (i := 5) rfl yk yk rfl rfl yd (ov_load rfl rfl ye ⟨⟨⟨trivial, yn⟩, (tn ya ya)⟩, (tn ya ya)⟩ rfl rfl tok5) ?_
  refine D_mem0 (i := 6) rfl yk yk rfl rfl yd (ov_add rfl rfl rfl ya) ?_
  refine D_oneV (i := 7) rfl yk rfl rfl yd xagy (OpX.v (ov_fieldAddr rfl rfl fa31_3 rfl)) ?_
  refine D_oneV (i := 8) rfl yk rfl rfl yd xagy (OpX.v (ov_indexAddr rfl rfl rfl Tryz.underlying25 rfl Tryz.sizeOf24 ya ya)) ?_
  refine D_oneV (i := 9) rfl yk rfl rfl yd xagy (OpX.v (ov_indexAddr rfl rfl rfl Tryz.underlying24 rfl Tryz.sizeOf5 ya ya)) ?_
  refine D_one (i := 10) rfl yk rfl trivial (ol_st1 rfl rfl rfl ⟨⟨⟨trivial, yn⟩, (tn ya ya)⟩, (tn ya ya)⟩ rfl yf tok5 ⟨xagy, ?_⟩)
  refine D_end yk ?_
  refine w2 (fun w0 => ?_)
  refine yL (ov_load rfl rfl ye trivial rfl rfl tok31) ?_
  refine LO_l rfl trivial (ol_sw0 rfl rfl rfl rfl yf tok31 ?_)
  refine LO_nil (W_ret ⟨trivial, yc, (ResV_cell rfl rfl ye rfl tok31 ?_)⟩)
  exact val_enc (by first | exact add_yes hc1 | exact add_no hc1)
 ·
  refine W_skip (w2 (fun w0 => ?_))
  refine yL (ov_load rfl rfl ye trivial rfl rfl tok31) ?_
  refine LO_l rfl trivial (ol_sw0 rfl rfl rfl rfl yf tok31 ?_)
  refine LO_nil (W_ret ⟨trivial, yc, (ResV_cell rfl rfl ye rfl tok31 ?_)⟩)
  exact val_enc (by first | exact add_yes hc1 | exact add_no hc1)

theorem c_drop_Take (p : Pos) (hp : POK p) (c kd : Int) (M : List Fact) (h0 : 0 ≤ c) (h1 : c ≤ 255) (h2 : 0 ≤ kd) (h3 : kd ≤ 255) : Pure Tryz.prog 108 [enc posT p, .int .u8 c, .int .u8 kd] M (.tuple #[enc posT (takeP p c kd).1, .bool (takeP p c kd).2]) := by
 obtain ⟨hb, hpw, hvr, htu, hpg, hvr0, htu0⟩ := hp.head
 have hpr := pkAt_rng hp c kd
 simp only [pkAt, pk] at hpr
 refine pure_of_W (n := 33) Tryz.func108 rfl rfl yn ?_
 refine w2 (fun w0 => ?_)
 refine LO_l rfl (by decide : 3 < 33) (ol_box (t := posT) rfl rfl rfl yf (fun b1 => ?_))
 refine LO_l rfl (by decide : 6 < 33) (ol_alloc (t := posT) rfl tok31 yf (fun b2 => ?_))
 refine zA ?_
 refine LO_nil (W_seq (w1 ((yM ?_))))
 refine yM ?_
 refine yP (yV rfl rfl rfl Tryz.call166 (by apply c_drop_fits <;> exact yz)) ?_
 refine yR (ov_not rfl rfl) ?_
 refine yM ?_
 refine gM ?_
 refine gM ?_
 refine yG (fun hg => OpX.v (ov_fieldAddr rfl rfl fa31_3 rfl)) ?_
 refine RO_g1 rfl rfl rfl rfl rfl yd (fun hg => by have hgx := hg; (try simp only [yS] at hgx); exact OpX.v (ov_indexAddr rfl (look_gv rfl (bq hg)) (look_gv rfl (bq hg)) Tryz.underlying25 rfl Tryz.sizeOf24 ya ya)) ?_
 refine RO_g1 rfl rfl rfl rfl rfl yd (fun hg => by have hgx := hg; (try simp only [yS] at hgx); exact OpX.v (ov_indexAddr rfl (look_gv rfl (bq hg)) (look_gv rfl (bq hg)) Tryz.underlying24 rfl Tryz.sizeOf5 ya ya)) ?_
 refine RO_g1 rfl rfl rfl rfl rfl yd (fun hg => by have hgx := hg; (try simp only [yS] at hgx); exact OpX.v (ov_load rfl (look_gv rfl (bq hg)) ye ⟨⟨⟨trivial, yn⟩, (tn ya ya)⟩, (tn ya ya)⟩ rfl rfl tok5)) ?_
 refine yG (fun hg => OpX.v (ov_eql rfl (look_gv rfl (bq hg)) rfl)) ?_
 refine yR (ov_or rfl rfl rfl rfl (fun h => bq h)) ?_
 refine RO_nil (W_cond rfl (fun hc1 => ?_) (fun hc1 => ?_))
 ·
  refine w2 (fun w0 => ?_)
  refine yL (ov_load rfl rfl ye trivial rfl rfl tok31) ?_
  refine LO_l rfl trivial (ol_sw0 rfl rfl rfl rfl yf tok31 ?_)
  refine zA ?_
  refine LO_nil (W_ret ⟨trivial, yc, (ResV_cell_tmp rfl rfl ye rfl tok31 rfl ?_)⟩)
  first | exact take_no hc1 | exact take_yes hc1
 ·
  have hws : wf posT (setPk p c kd (pkAt p c kd - 1)) := (POK_setPk hp c kd (by have := (Bool.or_eq_false_iff.1 hc1).2; have := of_decide_eq_false this; simp only [pkAt, pk]; omega) (by simp only [pkAt, pk]; omega)).wf
  have hc2 := hc1
  simp only [yS] at hc2
  refine W_skip (W_seq (W_regD (fun i => !Nat.beq i 10) mixed (fun w0 => ?_)))
  refine D_mem0 (i := 0) rfl yk yk rfl rfl yd (ov_move rfl rfl) ?_
  refine D_mem0 (i := 1) rfl yk yk rfl rfl yd (ov_move rfl rfl) ?_
  refine D_mem0 (i := 2) rfl yk yk rfl rfl yd (ov_fieldAddr rfl rfl fa31_3 rfl) ?_
  refine D_mem0 (i := 3) rfl yk yk rfl rfl yd (ov_indexAddr rfl rfl rfl Tryz.underlying25 rfl Tryz.sizeOf24 ya ya) ?_
  refine D_mem0 (i := 4) rfl yk yk rfl rfl yd (ov_indexAddr rfl rfl rfl Tryz.underlying24 rfl Tryz.sizeOf5 ya ya) ?_
  refine D_mem0 (i := 5) rfl yk yk rfl rfl yd (ov_load rfl rfl ye ⟨⟨⟨trivial, yn⟩, (tn ya ya)⟩, (tn ya ya)⟩ rfl rfl tok5) ?_
  refine D_mem0 (i := 6) rfl yk yk rfl rfl yd (ov_sub rfl rfl rfl ya) ?_
  refine D_oneV (i := 7) rfl yk rfl rfl yd xagy (OpX.v (ov_fieldAddr rfl rfl fa31_3 rfl)) ?_
  refine D_oneV (i := 8) rfl yk rfl rfl yd xagy (OpX.v (ov_indexAddr rfl rfl rfl Tryz.underlying25 rfl Tryz.sizeOf24 ya ya)) ?_
  refine D_oneV (i := 9) rfl yk rfl rfl yd xagy (OpX.v (ov_indexAddr rfl rfl rfl Tryz.underlying24 rfl Tryz.sizeOf5 ya ya)) ?_
  refine D_one (i := 10) rfl yk rfl trivial (ol_st1 rfl rfl rfl ⟨⟨⟨trivial, yn⟩, (tn ya ya)⟩, (tn ya ya)⟩ rfl yf tok5 ⟨xagy, ?_⟩)
  refine D_end yk ?_
  refine w2 (fun w0 => ?_)
  refine yL (ov_load rfl rfl ye trivial rfl rfl tok31) ?_
  refine LO_l rfl trivial (ol_sw0 rfl rfl rfl rfl yf tok31 ?_)
  refine zA ?_
  refine LO_nil (W_ret ⟨trivial, yc, (ResV_cell_tmp rfl rfl ye rfl tok31 rfl ?_)⟩)
  first | exact take_no hc1 | exact take_yes hc1
end Go.Kw
namespace Go.Kw
abbrev sideT : Ty := .st [posT, u64, u64]
abbrev moverT : Ty := .st [posT, posT, moveT, i64]
end Go.Kw
set_option linter.unusedVariables false
namespace Go.Kw
open Go.Proofs
theorem tok123 : TyOK Tryz.prog 123 sideT := ⟨Tryz.isAgg123, Tryz.sizeOf123, Tryz.zeroValue123⟩
abbrev fs122 : List Ty := [posT, u64, u64]
theorem bl123 : BuildOK Tryz.prog 123 fs122 := ⟨_, _, rfl, rfl, Tryz.underlying123, by kernel_rfl⟩
theorem fa31_6 : FA Tryz.prog 31 6 83 := fun a w => by simp [Instr.fieldAt, Tryz.runUnderlying31, Instr.sureAddr, fieldPlace, Tryz.sizeOf26]
theorem fa123_0 : FA Tryz.prog 123 0 0 := fun a w => by simp [Instr.fieldAt, Tryz.runUnderlying123, Instr.sureAddr, fieldPlace, Tryz.sizeOf31]
theorem fa123_1 : FA Tryz.prog 123 1 88 := fun a w => by simp [Instr.fieldAt, Tryz.runUnderlying123, Instr.sureAddr, fieldPlace, Tryz.sizeOf23]
theorem fa123_2 : FA Tryz.prog 123 2 89 := fun a w => by simp [Instr.fieldAt, Tryz.runUnderlying123, Instr.sureAddr, fieldPlace, Tryz.sizeOf23]

structure SOK (x : El sideT) : Prop where
  p : POK x.1
  t : tu x.1 ≤ 1
def shlB (s : Int) : BitVec 64 := 1#64 <<< ((BitVec.ofInt 64 s).toNat : Int).toNat
def passB (p : Pos) : BitVec 64 := if (decide (pg p < 0) || decide (64 ≤ pg p)) = true then 0#64 else shlB (pg p)
theorem xor56_all : ∀ s : Fin 64, xorI (s.val : Int) 56 / 8 = 7 - (s.val : Int) / 8 ∧ 0 ≤ xorI (s.val : Int) 56 ∧ xorI (s.val : Int) 56 < 64 := by decide +kernel
theorem xor56 {s : Int} (h0 : 0 ≤ s) (h1 : s < 64) : xorI s 56 / 8 = 7 - s / 8 ∧ 0 ≤ xorI s 56 ∧ xorI s 56 < 64 := by
  have := xor56_all ⟨s.toNat, by omega⟩
  simpa only [Int.toNat_of_nonneg h0] using this
def rankP (c s : Int) : Int := if c = 1 then xorI s 56 / 8 else s / 8
def aheadP (c s : Int) : Int := if c = 1 then s - 8 else s + 8
theorem ahead_rng (c s : Int) (h0 : 0 ≤ s) (h1 : s < 64) : -8 ≤ aheadP c s ∧ aheadP c s < 72 := by unfold aheadP; split <;> omega
def bitAt (b : BitVec 64) (s : Int) : Bool := decide ((b >>> ((BitVec.ofInt 64 s).toNat : Int).toNat) &&& 1#64 = 1#64)
def pawnTo (p : Pos) (own oth : BitVec 64) (s : Int) : BitVec 64 :=
  if decide (rankP (tu p) s = 7) = true then pawnB (tu p) s &&& (oth ||| passB p)
  else if bitAt (own ||| oth) (aheadP (tu p) s) = true then pawnB (tu p) s &&& (oth ||| passB p)
  else if (decide (rankP (tu p) s = 1) || ((decide (rankP (tu p) s = 0) && decide (vr p = 7)) && decide (tu p = 0))) = true then
    ((pawnB (tu p) s &&& (oth ||| passB p)) ||| shlB (aheadP (tu p) s)) ||| (shlB (aheadP (tu p) (aheadP (tu p) s)) &&& ~~~(own ||| oth))
  else (pawnB (tu p) s &&& (oth ||| passB p)) ||| shlB (aheadP (tu p) s)
theorem pawn_a {p : Pos} {own oth : BitVec 64} {s : Int} (h : decide (rankP (tu p) s = 7) = true) : pawnTo p own oth s = pawnB (tu p) s &&& (oth ||| passB p) := by unfold pawnTo; rw [if_pos h]
theorem pawn_b {p : Pos} {own oth : BitVec 64} {s : Int} (h : decide (rankP (tu p) s = 7) = false) (h2 : bitAt (own ||| oth) (aheadP (tu p) s) = true) : pawnTo p own oth s = pawnB (tu p) s &&& (oth ||| passB p) := by
  unfold pawnTo; rw [if_neg xasy, if_pos h2]
theorem pawn_c {p : Pos} {own oth : BitVec 64} {s : Int} (h : decide (rankP (tu p) s = 7) = false) (h2 : bitAt (own ||| oth) (aheadP (tu p) s) = false) (h3 : (decide (rankP (tu p) s = 1) || ((decide (rankP (tu p) s = 0) && decide (vr p = 7)) && decide (tu p = 0))) = true) :
    pawnTo p own oth s = ((pawnB (tu p) s &&& (oth ||| passB p)) ||| shlB (aheadP (tu p) s)) ||| (shlB (aheadP (tu p) (aheadP (tu p) s)) &&& ~~~(own ||| oth)) := by
  unfold pawnTo; rw [if_neg xasy, if_neg (by rw [h2]; simp), if_pos h3]
theorem pawn_d {p : Pos} {own oth : BitVec 64} {s : Int} (h : decide (rankP (tu p) s = 7) = false) (h2 : bitAt (own ||| oth) (aheadP (tu p) s) = false) (h3 : (decide (rankP (tu p) s = 1) || ((decide (rankP (tu p) s = 0) && decide (vr p = 7)) && decide (tu p = 0))) = false) :
    pawnTo p own oth s = (pawnB (tu p) s &&& (oth ||| passB p)) ||| shlB (aheadP (tu p) s) := by
  unfold pawnTo; rw [if_neg xasy, if_neg (by rw [h2]; simp), if_neg (by rw [h3]; simp)]
def toP (p : Pos) (own oth : BitVec 64) (s : Int) : BitVec 64 :=
  (if kind (pb p s) = 1 then pawnTo p own oth s else if kind (pb p s) = 2 then knightB s else if kind (pb p s) = 3 then bishopB s (own ||| oth) else if kind (pb p s) = 4 then rookB s (own ||| oth)
   else if kind (pb p s) = 5 then queenB s (own ||| oth) else if kind (pb p s) = 6 then (if vr p = 3 then kingB s &&& ~~~oth else kingB s) else 0#64) &&& ~~~own
def ofS (p : Pos) : El sideT × Bool := if (decide (1 < tu p) || decide (9 ≤ vr p)) = true then (zero sideT, false) else ((p, ofB p (tu p) 0, ofB p (1 - tu p) 0, ()), true)
theorem of_no {p : Pos} (h : (decide (1 < tu p) || decide (9 ≤ vr p)) = true) : Value.tuple #[enc sideT (zero sideT), .bool false] = .tuple #[enc sideT (ofS p).1, .bool (ofS p).2] := by unfold ofS; rw [if_pos h]
theorem of_yes {p : Pos} (h : (decide (1 < tu p) || decide (9 ≤ vr p)) = false) : Value.tuple #[enc sideT (p, ofB p (tu p) 0, ofB p (1 - tu p) 0, ()), .bool true] = .tuple #[enc sideT (ofS p).1, .bool (ofS p).2] := by unfold ofS; rw [if_neg xasy]

theorem c_pseudo_side_passing (p : Pos) (hp : POK p) (own oth : BitVec 64) (M : List Fact) : Pure Tryz.prog 222 [enc sideT (p, own, oth, ())] M (u64v (passB p)) := by
 obtain ⟨hb, hpw, hvr, htu, hpg, hvr0, htu0⟩ := hp.head
 have hws : wf sideT (p, own, oth, ()) := ⟨hpw, trivial, trivial, trivial⟩
 refine pure_of_W (n := 18) Tryz.func222 rfl rfl yn ?_
 refine w2 (fun w0 => ?_)
 refine LO_l rfl (by decide : 1 < 18) (ol_box (t := sideT) rfl rfl rfl yf (fun b1 => ?_))
 refine yL (ov_assign (v := u64v 0#64) rfl rfl) ?_
 refine LO_nil (W_seq (w1 ((yR (ov_fieldAddr rfl rfl fa123_0 rfl) ?_))))
 refine yR (ov_fieldAddr rfl rfl fa31_6 rfl) ?_
 refine yR (ov_load rfl rfl ye ⟨⟨trivial, yn⟩, yn⟩ rfl rfl tok26) ?_
 refine yR (ov_lss rfl rfl rfl) ?_
 refine yM ?_
 refine yG (fun hg => OpX.v (ov_fieldAddr rfl rfl fa123_0 rfl)) ?_
 refine yG (fun hg => OpX.v (ov_fieldAddr rfl (look_gv rfl (bq hg)) fa31_6 rfl)) ?_
 refine yG (fun hg => OpX.v (ov_load rfl (look_gv rfl (bq hg)) ye ⟨⟨trivial, yn⟩, yn⟩ rfl rfl tok26)) ?_
 refine yG (fun hg => OpX.v (ov_geq rfl (look_gv rfl (bq hg)) rfl)) ?_
 refine yR (ov_or rfl rfl rfl rfl (fun h => bq h)) ?_
 refine RO_nil (W_cond rfl (fun hc1 => ?_) (fun hc1 => ?_))
 ·
  refine w1 ((yR (ov_assign (v := u64v 0#64) rfl rfl) ?_))
  refine RO_nil (W_ret ⟨trivial, yc, (ResV_tmp1 rfl rfl ?_)⟩)
  exact val_u64 (by unfold passB; first | exact (if_pos yA).symm | exact (if_neg (by rw [Bool.not_eq_true]; assumption)).symm)
 ·
  refine W_skip (w1 ((yR (ov_fieldAddr rfl rfl fa123_0 rfl) ?_)))
  refine yR (ov_fieldAddr rfl rfl fa31_6 rfl) ?_
  refine yR (ov_load rfl rfl ye ⟨⟨trivial, yn⟩, yn⟩ rfl rfl tok26) ?_
  refine yR (ov_conv64 rfl rfl Tryz.underlying26 Tryz.underlying111) ?_
  refine yR (ov_shl64 (a := 1#64) rfl rfl rfl ya) ?_
  refine yA_ ?_
  refine RO_nil (W_ret ⟨trivial, yc, (ResV_tmp1 rfl rfl ?_)⟩)
  exact val_u64 (by unfold passB; first | exact (if_pos yA).symm | exact (if_neg (by rw [Bool.not_eq_true]; assumption)).symm)

theorem c_pseudo_rank (c s : Int) (M : List Fact) (h0 : 0 ≤ s) (h1 : s < 64) : Pure Tryz.prog 214 [.int .u8 c, .int .i64 s] M (.int .i64 (rankP c s)) := by
 have hx := xor56 h0 h1
 refine pure_of_W (n := 11) Tryz.func214 rfl rfl yn ?_
 refine w1 ((yA_ ?_))
 refine RO_nil (W_seq (w1 ((yM ?_))))
 refine yR (ov_eql rfl rfl rfl) ?_
 refine RO_nil (W_cond rfl (fun hc1 => ?_) (fun hc1 => ?_))
 ·
  try simp only [yS] at hc1
  refine W_reg (yM ?_)
  refine yR (ov_xorI rfl rfl rfl) ?_
  refine yA_ ?_
  refine RO_nil (w1 ((yM ?_)))
  refine yR (ov_quo_pos rfl rfl rfl ya ya ya) ?_
  refine yA_ ?_
  refine RO_nil (W_ret ⟨trivial, yc, (ResV_tmp1 rfl rfl ?_)⟩)
  exact val_int (by unfold rankP; first | exact (if_pos xaky).symm | exact (if_neg xaky).symm)
 ·
  try simp only [yS] at hc1
  refine W_skip (w1 ((yM ?_)))
  refine yR (ov_quo_pos rfl rfl rfl ya ya ya) ?_
  refine yA_ ?_
  refine RO_nil (W_ret ⟨trivial, yc, (ResV_tmp1 rfl rfl ?_)⟩)
  exact val_int (by unfold rankP; first | exact (if_pos xaky).symm | exact (if_neg xaky).symm)

theorem c_pseudo_ahead (c s : Int) (M : List Fact) (h0 : -1000 ≤ s) (h1 : s < 1000) : Pure Tryz.prog 106 [.int .u8 c, .int .i64 s] M (.int .i64 (aheadP c s)) := by
 refine pure_of_W (n := 11) Tryz.func106 rfl rfl yn ?_
 refine w1 ((yA_ ?_))
 refine RO_nil (W_seq (w1 ((yM ?_))))
 refine yR (ov_eql rfl rfl rfl) ?_
 refine RO_nil (W_cond rfl (fun hc1 => ?_) (fun hc1 => ?_))
 ·
  try simp only [yS] at hc1
  refine w1 ((yM ?_))
  refine yR (ov_sub rfl rfl rfl ya) ?_
  refine yA_ ?_
  refine RO_nil (W_ret ⟨trivial, yc, (ResV_tmp1 rfl rfl ?_)⟩)
  exact val_int (by unfold aheadP; first | exact (if_pos xaky).symm | exact (if_neg xaky).symm)
 ·
  try simp only [yS] at hc1
  refine W_skip (w1 ((yM ?_)))
  refine yR (ov_add rfl rfl rfl ya) ?_
  refine yA_ ?_
  refine RO_nil (W_ret ⟨trivial, yc, (ResV_tmp1 rfl rfl ?_)⟩)
  exact val_int (by unfold aheadP; first | exact (if_pos xaky).symm | exact (if_neg xaky).symm)

theorem c_pseudo_side_pawn (p : Pos) (hp : POK p) (own oth : BitVec 64) (s : Int) (M : List Fact) (ht : tu p ≤ 1) (h0 : 0 ≤ s) (h1 : s < 64) : Pure Tryz.prog 209 [enc sideT (p, own, oth, ()), .int .i64 s] M (u64v (pawnTo p own oth s)) := by
 obtain ⟨hb, hpw, hvr, htu, hpg, hvr0, htu0⟩ := hp.head
 have hws : wf sideT (p, own, oth, ()) := ⟨hpw, trivial, trivial, trivial⟩
 have ht2 := ht
 simp only [tu] at ht
 have har := ahead_rng p.2.2.2.2.1 s h0 h1
 refine pure_of_W (n := 76) Tryz.func209 rfl rfl yn ?_
 refine w2 (fun w0 => ?_)
 refine LO_l rfl (by decide : 2 < 76) (ol_box (t := sideT) rfl rfl rfl yf (fun b1 => ?_))
 refine yL (ov_assign (v := u64v 0#64) rfl rfl) ?_
 refine LO_nil (w1 ((yR (ov_fieldAddr rfl rfl fa123_0 rfl) ?_)))
 refine yR (ov_fieldAddr rfl rfl fa31_4 rfl) ?_
 refine yR (ov_load rfl rfl ye ⟨⟨trivial, yn⟩, yn⟩ rfl rfl tok5) ?_
 refine yA_ ?_
 refine RO_nil (W_seq (W_regd mixed yk ?_))
 refine yM ?_
 refine yM ?_
 refine yP (yV rfl rfl rfl Tryz.call116 (by apply c_rays_Pawn <;> exact yz)) ?_
 refine yR (ov_fieldAddr rfl rfl fa123_2 rfl) ?_
 refine yR (ov_load rfl rfl ye ⟨trivial, yn⟩ rfl rfl tok23) ?_
 refine yR (ov_load rfl rfl ye trivial rfl rfl tok123) ?_
 refine yP (yV rfl rfl rfl Tryz.call222 (by apply c_pseudo_side_passing <;> exact yz)) ?_
 refine yR (ov_bits rfl rfl rfl (.inr (.inl ⟨rfl, rfl⟩))) ?_
 refine yR (ov_bits rfl rfl rfl (.inl ⟨rfl, rfl⟩)) ?_
 refine yA_ ?_
 refine RO_nil (W_seq (w1 ((yM ?_))))
 refine yM ?_
 refine yP (yV rfl rfl rfl Tryz.call214 (by apply c_pseudo_rank <;> exact yz)) ?_
 refine yR (ov_eql rfl rfl rfl) ?_
 refine RO_nil (W_cond rfl (fun hc1 => ?_) (fun hc1 => ?_))
 ·
  refine w1 ((yM ?_))
  refine yA_ ?_
  refine RO_nil (W_ret ⟨trivial, yc, (ResV_tmp1 rfl rfl ?_)⟩)
  exact xbby
 ·
  refine W_skip (w1 ((yR (ov_fieldAddr rfl rfl fa123_1 rfl) ?_)))
  refine yR (ov_load rfl rfl ye ⟨trivial, yn⟩ rfl rfl tok23) ?_
  refine yR (ov_fieldAddr rfl rfl fa123_2 rfl) ?_
  refine yR (ov_load rfl rfl ye ⟨trivial, yn⟩ rfl rfl tok23) ?_
  refine yR (ov_bits rfl rfl rfl (.inr (.inl ⟨rfl, rfl⟩))) ?_
  refine yA_ ?_
  refine RO_nil (w1 ((yM ?_)))
  refine yM ?_
  refine yP (yV rfl rfl rfl Tryz.call106 (by apply c_pseudo_ahead <;> exact yz)) ?_
  refine yA_ ?_
  refine RO_nil (W_seq (w1 ((yM ?_))))
  refine yM ?_
  refine yR (ov_conv64 rfl rfl Tryz.underlying3 Tryz.underlying111) ?_
  refine yR (ov_shr64 rfl rfl rfl ya) ?_
  refine yR (ov_bits (b := 1#64) rfl rfl rfl (.inl ⟨rfl, rfl⟩)) ?_
  refine yR (ov_eql64 (b := 1#64) rfl rfl rfl) ?_
  refine RO_nil (W_cond rfl (fun hc2 => ?_) (fun hc2 => ?_))
  ·
   refine w1 ((yM ?_))
   refine yA_ ?_
   refine RO_nil (W_ret ⟨trivial, yc, (ResV_tmp1 rfl rfl ?_)⟩)
   exact xbby
  ·
   refine W_skip (w1 ((yM ?_)))
   refine yM ?_
   refine yR (ov_conv64 rfl rfl Tryz.underlying3 Tryz.underlying111) ?_
   refine yR (ov_shl64 (a := 1#64) rfl rfl rfl ya) ?_
   refine yR (ov_bits rfl rfl rfl (.inr (.inl ⟨rfl, rfl⟩))) ?_
   refine yA_ ?_
   refine RO_nil (w1 ((yM ?_)))
   refine yM ?_
   refine yP (yV rfl rfl rfl Tryz.call214 (by apply c_pseudo_rank <;> exact yz)) ?_
   refine yA_ ?_
   refine RO_nil (W_seq (w1 ((yM ?_))))
   refine yR (ov_eql rfl rfl rfl) ?_
   refine yM ?_
   refine RO_g1 rfl rfl rfl rfl rfl yd (fun hg => by have hgx := hg; (try simp only [yS] at hgx); exact OpX.v (ov_move rfl rfl)) ?_
   refine RO_g1 rfl rfl rfl rfl rfl yd (fun hg => by have hgx := hg; (try simp only [yS] at hgx); exact OpX.v (ov_eql rfl (look_gv rfl (bq hg)) rfl)) ?_
   refine RO_g1 rfl rfl rfl rfl rfl yd (fun hg => by have hgx := hg; (try simp only [yS] at hgx); exact OpX.v (ov_move rfl (look_gv rfl (bq hg)))) ?_
   refine RO_g rfl rfl rfl rfl rfl yd (fun hg1 hg2 => by have hgx := hg2; (try simp only [yS] at hgx); exact OpX.v (ov_fieldAddr rfl rfl fa123_0 rfl)) ?_
   refine RO_g rfl rfl rfl rfl rfl yd (fun hg1 hg2 => by have hgx := hg2; (try simp only [yS] at hgx); exact OpX.v (ov_fieldAddr rfl (look_gv rfl (bq2 hg1 hg2)) fa31_0 rfl)) ?_
   refine RO_g rfl rfl rfl rfl rfl yd (fun hg1 hg2 => by have hgx := hg2; (try simp only [yS] at hgx); exact OpX.v (ov_load rfl (look_gv rfl (bq2 hg1 hg2)) ye ⟨⟨trivial, yn⟩, yn⟩ rfl rfl tok5)) ?_
   refine RO_g rfl rfl rfl rfl rfl yd (fun hg1 hg2 => by have hgx := hg2; (try simp only [yS] at hgx); exact OpX.v (ov_eql rfl (look_gv rfl (bq2 hg1 hg2)) rfl)) ?_
   refine RO_g1 rfl rfl rfl rfl rfl yd (fun hg => by have hgx := hg; (try simp only [yS] at hgx); exact OpX.v (ov_and rfl (look_gv rfl (bq hg)) rfl rfl (fun h => bq2 (bq hg) h))) ?_
   refine RO_g1 rfl rfl rfl rfl rfl yd (fun hg => by have hgx := hg; (try simp only [yS] at hgx); exact OpX.v (ov_move rfl (look_gv rfl (bq hg)))) ?_
   refine RO_g rfl rfl rfl rfl rfl yd (fun hg1 hg2 => by have hgx := hg2; (try simp only [yS] at hgx); exact OpX.v (ov_move rfl rfl)) ?_
   refine RO_g rfl rfl rfl rfl rfl yd (fun hg1 hg2 => by have hgx := hg2; (try simp only [yS] at hgx); exact OpX.v (ov_eql rfl (look_gv rfl (bq2 hg1 hg2)) rfl)) ?_
   refine RO_g1 rfl rfl rfl rfl rfl yd (fun hg => by have hgx := hg; (try simp only [yS] at hgx); exact OpX.v (ov_and rfl (look_gv rfl (bq hg)) rfl rfl (fun h => bq2 (bq hg) h))) ?_
   refine yR (ov_or rfl rfl rfl rfl (fun h => bq h)) ?_
   refine RO_nil (W_cond rfl (fun hc3 => ?_) (fun hc3 => ?_))
   ·
    refine W_reg (yM ?_)
    refine yM ?_
    refine yM ?_
    refine yP (yV rfl rfl rfl Tryz.call106 (by apply c_pseudo_ahead <;> exact yz)) ?_
    refine yR (ov_conv64 rfl rfl Tryz.underlying3 Tryz.underlying111) ?_
    refine yR (ov_shl64 (a := 1#64) rfl rfl rfl ya) ?_
    refine yM ?_
    refine yR (ov_bits rfl rfl rfl (.inr (.inr (.inr ⟨rfl, rfl⟩)))) ?_
    refine yR (ov_bits rfl rfl rfl (.inr (.inl ⟨rfl, rfl⟩))) ?_
    refine yA_ ?_
    refine RO_nil (w1 ((yM ?_)))
    refine yA_ ?_
    refine RO_nil (W_ret ⟨trivial, yc, (ResV_tmp1 rfl rfl ?_)⟩)
    exact xbby
   ·
    refine W_skip (w1 ((yM ?_)))
    refine yA_ ?_
    refine RO_nil (W_ret ⟨trivial, yc, (ResV_tmp1 rfl rfl ?_)⟩)
    exact xbby

theorem c_pseudo_side_to (p : Pos) (hp : POK p) (own oth : BitVec 64) (s : Int) (M : List Fact) (hT : TAB ∈ M) (ht : tu p ≤ 1) (h0 : 0 ≤ s) (h1 : s < 64) : Pure Tryz.prog 194 [enc sideT (p, own, oth, ()), .int .i64 s] M (u64v (toP p own oth s)) := by
 obtain ⟨hb, hpw, hvr, htu, hpg, hvr0, htu0⟩ := hp.head
 have hws : wf sideT (p, own, oth, ()) := ⟨hpw, trivial, trivial, trivial⟩
 have ht2 := ht
 simp only [tu] at ht
 refine pure_of_W (n := 58) Tryz.func194 rfl rfl yn ?_
 refine w2 (fun w0 => ?_)
 refine LO_l rfl (by decide : 2 < 58) (ol_box (t := sideT) rfl rfl rfl yf (fun b1 => ?_))
 refine yL (ov_assign (v := u64v 0#64) rfl rfl) ?_
 refine LO_nil (w1 ((yR (ov_fieldAddr rfl rfl fa123_1 rfl) ?_)))
 refine yR (ov_load rfl rfl ye ⟨trivial, yn⟩ rfl rfl tok23) ?_
 refine yR (ov_fieldAddr rfl rfl fa123_2 rfl) ?_
 refine yR (ov_load rfl rfl ye ⟨trivial, yn⟩ rfl rfl tok23) ?_
 refine yR (ov_bits rfl rfl rfl (.inr (.inl ⟨rfl, rfl⟩))) ?_
 refine yA_ ?_
 refine RO_nil (w1 ((yR (ov_assign (v := u64v 0#64) rfl rfl) ?_)))
 refine RO_nil (W_seq (w1 ((yM ?_))))
 refine yR (ov_fieldAddr rfl rfl fa123_0 rfl) ?_
 refine yR (ov_fieldAddr rfl rfl fa31_1 rfl) ?_
 refine yR (ov_indexAddr rfl rfl rfl Tryz.underlying22 rfl Tryz.sizeOf5 ya ya) ?_
 refine yR (ov_load rfl rfl ye ⟨⟨⟨trivial, yn⟩, yn⟩, (tn ya ya)⟩ rfl rfl tok5) ?_
 refine yP (yV rfl rfl rfl Tryz.call105 (by apply c_pieces_Kind <;> exact yz)) ?_
 refine RO_nil (W_block (w1 ((yR (ov_eql rfl rfl rfl) ?_))))
 refine yA_ ?_
 refine RO_nil (W_cond rfl (fun hc1 => ?_) (fun hc1 => ?_))
 ·
  try simp only [yS] at hc1
  refine W_reg (yR (ov_load rfl rfl ye trivial rfl rfl tok123) ?_)
  refine yM ?_
  refine yP (yV rfl rfl rfl Tryz.call209 (by apply c_pseudo_side_pawn <;> exact yz)) ?_
  refine yA_ ?_
  refine RO_nil (w1 ((yM ?_)))
  refine yR (ov_fieldAddr rfl rfl fa123_1 rfl) ?_
  refine yR (ov_load rfl rfl ye ⟨trivial, yn⟩ rfl rfl tok23) ?_
  refine yR (ov_bits rfl rfl rfl (.inr (.inr (.inr ⟨rfl, rfl⟩)))) ?_
  refine yA_ ?_
  refine RO_nil (W_ret ⟨trivial, yc, (ResV_tmp1 rfl rfl ?_)⟩)
  exact val_u64 xacy
 ·
  try simp only [yS] at hc1
  refine w1 ((yR (ov_eql rfl rfl rfl) ?_))
  refine yA_ ?_
  refine RO_nil (W_cond rfl (fun hc2 => ?_) (fun hc2 => ?_))
  ·
   try simp only [yS] at hc2
   refine W_reg (yM ?_)
   refine yP (yV rfl rfl rfl Tryz.call210 (by apply c_rays_Knight <;> exact yz)) ?_
   refine yA_ ?_
   refine RO_nil (w1 ((yM ?_)))
   refine yR (ov_fieldAddr rfl rfl fa123_1 rfl) ?_
   refine yR (ov_load rfl rfl ye ⟨trivial, yn⟩ rfl rfl tok23) ?_
   refine yR (ov_bits rfl rfl rfl (.inr (.inr (.inr ⟨rfl, rfl⟩)))) ?_
   refine yA_ ?_
   refine RO_nil (W_ret ⟨trivial, yc, (ResV_tmp1 rfl rfl ?_)⟩)
   exact val_u64 xacy
  ·
   try simp only [yS] at hc2
   refine w1 ((yR (ov_eql rfl rfl rfl) ?_))
   refine yA_ ?_
   refine RO_nil (W_cond rfl (fun hc3 => ?_) (fun hc3 => ?_))
   ·
    try simp only [yS] at hc3
    refine W_reg (yM ?_)
    refine yM ?_
    refine yP (yV rfl rfl rfl Tryz.call211 (by apply c_slides_Bishop <;> exact yz)) ?_
    refine yA_ ?_
    refine RO_nil (w1 ((yM ?_)))
    refine yR (ov_fieldAddr rfl rfl fa123_1 rfl) ?_
    refine yR (ov_load rfl rfl ye ⟨trivial, yn⟩ rfl rfl tok23) ?_
    refine yR (ov_bits rfl rfl rfl (.inr (.inr (.inr ⟨rfl, rfl⟩)))) ?_
    refine yA_ ?_
    refine RO_nil (W_ret ⟨trivial, yc, (ResV_tmp1 rfl rfl ?_)⟩)
    exact val_u64 xacy
   ·
    try simp only [yS] at hc3
    refine w1 ((yR (ov_eql rfl rfl rfl) ?_))
    refine yA_ ?_
    refine RO_nil (W_cond rfl (fun hc4 => ?_) (fun hc4 => ?_))
    ·
     try simp only [yS] at hc4
     refine W_reg (yM ?_)
     refine yM ?_
     refine yP (yV rfl rfl rfl Tryz.call212 (by apply c_slides_Rook <;> exact yz)) ?_
     refine yA_ ?_
     refine RO_nil (w1 ((yM ?_)))
     refine yR (ov_fieldAddr rfl rfl fa123_1 rfl) ?_
     refine yR (ov_load rfl rfl ye ⟨trivial, yn⟩ rfl rfl tok23) ?_
     refine yR (ov_bits rfl rfl rfl (.inr (.inr (.inr ⟨rfl, rfl⟩)))) ?_
     refine yA_ ?_
     refine RO_nil (W_ret ⟨trivial, yc, (ResV_tmp1 rfl rfl ?_)⟩)
     exact val_u64 xacy
    ·
     try simp only [yS] at hc4
     refine w1 ((yR (ov_eql rfl rfl rfl) ?_))
     refine yA_ ?_
     refine RO_nil (W_cond rfl (fun hc5 => ?_) (fun hc5 => ?_))
     ·
      try simp only [yS] at hc5
      refine W_reg (yM ?_)
      refine yM ?_
      refine yP (yV rfl rfl rfl Tryz.call213 (by apply c_slides_Queen <;> exact yz)) ?_
      refine yA_ ?_
      refine RO_nil (w1 ((yM ?_)))
      refine yR (ov_fieldAddr rfl rfl fa123_1 rfl) ?_
      refine yR (ov_load rfl rfl ye ⟨trivial, yn⟩ rfl rfl tok23) ?_
      refine yR (ov_bits rfl rfl rfl (.inr (.inr (.inr ⟨rfl, rfl⟩)))) ?_
      refine yA_ ?_
      refine RO_nil (W_ret ⟨trivial, yc, (ResV_tmp1 rfl rfl ?_)⟩)
      exact val_u64 xacy
     ·
      try simp only [yS] at hc5
      refine w1 ((yR (ov_eql rfl rfl rfl) ?_))
      refine yA_ ?_
      refine RO_nil (W_cond rfl (fun hc6 => ?_) (fun hc6 => ?_))
      ·
       try simp only [yS] at hc6
       refine w1 ((yM ?_))
       refine yP (yV rfl rfl rfl Tryz.call139 (by apply c_rays_King <;> exact yz)) ?_
       refine yA_ ?_
       refine RO_nil (w1 ((yR (ov_fieldAddr rfl rfl fa123_0 rfl) ?_)))
       refine yR (ov_fieldAddr rfl rfl fa31_0 rfl) ?_
       refine yR (ov_load rfl rfl ye ⟨⟨trivial, yn⟩, yn⟩ rfl rfl tok5) ?_
       refine yR (ov_eql rfl rfl rfl) ?_
       refine RO_nil (W_cond rfl (fun hc7 => ?_) (fun hc7 => ?_))
       ·
        try simp only [yS] at hc7
        refine W_reg (yM ?_)
        refine yR (ov_fieldAddr rfl rfl fa123_2 rfl) ?_
        refine yR (ov_load rfl rfl ye ⟨trivial, yn⟩ rfl rfl tok23) ?_
        refine yR (ov_bits rfl rfl rfl (.inr (.inr (.inr ⟨rfl, rfl⟩)))) ?_
        refine yA_ ?_
        refine RO_nil (w1 ((yM ?_)))
        refine yR (ov_fieldAddr rfl rfl fa123_1 rfl) ?_
        refine yR (ov_load rfl rfl ye ⟨trivial, yn⟩ rfl rfl tok23) ?_
        refine yR (ov_bits rfl rfl rfl (.inr (.inr (.inr ⟨rfl, rfl⟩)))) ?_
        refine yA_ ?_
        refine RO_nil (W_ret ⟨trivial, yc, (ResV_tmp1 rfl rfl ?_)⟩)
        exact val_u64 xacy
       ·
        try simp only [yS] at hc7
        refine W_skip (w1 ((yM ?_)))
        refine yR (ov_fieldAddr rfl rfl fa123_1 rfl) ?_
        refine yR (ov_load rfl rfl ye ⟨trivial, yn⟩ rfl rfl tok23) ?_
        refine yR (ov_bits rfl rfl rfl (.inr (.inr (.inr ⟨rfl, rfl⟩)))) ?_
        refine yA_ ?_
        refine RO_nil (W_ret ⟨trivial, yc, (ResV_tmp1 rfl rfl ?_)⟩)
        exact val_u64 xacy
      ·
       try simp only [yS] at hc6
       refine W_skip (w1 ((yM ?_)))
       refine yR (ov_fieldAddr rfl rfl fa123_1 rfl) ?_
       refine yR (ov_load rfl rfl ye ⟨trivial, yn⟩ rfl rfl tok23) ?_
       refine yR (ov_bits rfl rfl rfl (.inr (.inr (.inr ⟨rfl, rfl⟩)))) ?_
       refine yA_ ?_
       refine RO_nil (W_ret ⟨trivial, yc, (ResV_tmp1 rfl rfl ?_)⟩)
       exact val_u64 xacy

theorem c_pseudo_of (p : Pos) (hp : POK p) (M : List Fact) : Pure Tryz.prog 104 [enc posT p] M (.tuple #[enc sideT (ofS p).1, .bool (ofS p).2]) := by
 obtain ⟨hb, hpw, hvr, htu, hpg, hvr0, htu0⟩ := hp.head
 refine pure_of_W (n := 24) Tryz.func104 rfl rfl yn ?_
 refine w2 (fun w0 => ?_)
 refine LO_l rfl (by decide : 1 < 24) (ol_box (t := posT) rfl rfl rfl yf (fun b1 => ?_))
 refine LO_l rfl (by decide : 2 < 24) (ol_alloc (t := sideT) rfl tok123 yf (fun b2 => ?_))
 refine zA ?_
 refine LO_nil (W_seq (w1 ((yR (ov_fieldAddr rfl rfl fa31_4 rfl) ?_))))
 refine yR (ov_load rfl rfl ye ⟨trivial, yn⟩ rfl rfl tok5) ?_
 refine yR (ov_gtr rfl rfl rfl) ?_
 refine yM ?_
 refine yG (fun hg => OpX.v (ov_fieldAddr rfl rfl fa31_0 rfl)) ?_
 refine yG (fun hg => OpX.v (ov_load rfl (look_gv rfl (bq hg)) ye ⟨trivial, yn⟩ rfl rfl tok5)) ?_
 refine yG (fun hg => OpX.v (ov_geq rfl (look_gv rfl (bq hg)) rfl)) ?_
 refine yR (ov_or rfl rfl rfl rfl (fun h => bq h)) ?_
 refine RO_nil (W_cond rfl (fun hc1 => ?_) (fun hc1 => ?_))
 ·
  refine w2 (fun w0 => ?_)
  refine yL (ov_build (fs := fs122) (ds := []) rfl rfl bl123 trivial rfl) ?_
  refine LO_l rfl trivial (ol_sw0 rfl rfl rfl rfl yf tok123 ?_)
  refine zA ?_
  refine LO_nil (W_ret ⟨trivial, yc, (ResV_cell_tmp rfl rfl ye rfl tok123 rfl ?_)⟩)
  first | exact of_no hc1 | exact of_yes hc1
 ·
  have ht1 : tu p ≤ 1 := Int.not_lt.1 (of_decide_eq_false (Bool.or_eq_false_iff.1 hc1).1)
  have ht2 := ht1
  simp only [tu] at ht2
  have hws : wf sideT (p, ofB p (tu p) 0, ofB p (1 - tu p) 0, ()) := ⟨hpw, trivial, trivial, trivial⟩
  refine W_skip (W_seq (W_regD (fun i => !Nat.beq i 11) mixed (fun w0 => ?_)))
  refine D_mem0 (i := 0) rfl yk yk rfl rfl yd (ov_load rfl rfl ye trivial rfl rfl tok31) ?_
  refine D_mem0 (i := 1) rfl yk yk rfl rfl yd (ov_load rfl rfl ye trivial rfl rfl tok31) ?_
  refine D_mem0 (i := 2) rfl yk yk rfl rfl yd (ov_fieldAddr rfl rfl fa31_4 rfl) ?_
  refine D_mem0 (i := 3) rfl yk yk rfl rfl yd (ov_load rfl rfl ye ⟨trivial, yn⟩ rfl rfl tok5) ?_
  refine D_mem0 (i := 5) rfl yk yk rfl rfl yd (ov_load rfl rfl ye trivial rfl rfl tok31) ?_
  refine D_mem0 (i := 6) rfl yk yk rfl rfl yd (ov_fieldAddr rfl rfl fa31_4 rfl) ?_
  refine D_mem0 (i := 7) rfl yk yk rfl rfl yd (ov_load rfl rfl ye ⟨trivial, yn⟩ rfl rfl tok5) ?_
  refine D_mem0 (i := 8) rfl yk yk rfl rfl yd (ov_sub rfl rfl rfl ya) ?_
  refine D_oneV (i := 4) rfl yk rfl rfl yd xagy (yV rfl rfl rfl Tryz.call117 xavy) ?_
  refine D_oneV (i := 9) rfl yk rfl rfl yd xagy (yV rfl rfl rfl Tryz.call117 xavy) ?_
  refine D_oneV (i := 10) rfl yk rfl rfl yd xagy (OpX.v (ov_build (fs := fs122) (ds := [⟨0, _⟩, ⟨1, _⟩, ⟨2, _⟩]) rfl rfl bl123 ⟨yn, yf, ⟨yn, yf, ⟨yn, yf, trivial⟩⟩⟩ rfl)) ?_
  refine D_one (i := 11) rfl yk rfl trivial (ol_sw0 rfl rfl rfl rfl yf tok123 ⟨xagy, ?_⟩)
  refine D_oneV (i := 12) rfl yk rfl rfl yd xagy (OpX.v (ov_assign rfl rfl)) ?_
  refine D_end yk ?_
  refine W_ret ⟨trivial, yc, (ResV_cell_tmp rfl rfl ye rfl tok123 rfl ?_)⟩
  first | exact of_no hc1 | exact of_yes hc1
end Go.Kw
set_option linter.unusedVariables false
namespace Go.Kw
open Go.Proofs
theorem eqt26_ (d : Nat) : EqT Tryz.prog (d + 1) 26 i8 := Tryz.underlying26
theorem eqt5_ (d : Nat) : EqT Tryz.prog (d + 1) 5 u8 := Tryz.underlying5
theorem eqt4_ (d : Nat) : EqT Tryz.prog (d + 1) 4 .bool := Tryz.underlying4
theorem eqt55_ (d : Nat) : EqT Tryz.prog (d + 2) 55 moveT := eqt_st (d := d + 1) Tryz.underlying55 yk ⟨by decide, rfl, tok26, eqt26_ (d + 0), ⟨by decide, rfl, tok26, eqt26_ (d + 0), ⟨by decide, rfl, tok5, eqt5_ (d + 0), ⟨by decide, rfl, tok5, eqt5_ (d + 0), ⟨by decide, rfl, tok4, eqt4_ (d + 0), trivial⟩⟩⟩⟩⟩
theorem eqt55 : EqT Tryz.prog 6 55 moveT := eqt55_ 4
theorem eqg55 : Tryz.prog.eqGuardType Tryz.prog.depth 55 = false := by kernel_rfl
theorem fa55_2 : FA Tryz.prog 55 2 2 := fun a w => by simp [Instr.fieldAt, Tryz.runUnderlying55, Instr.sureAddr, fieldPlace, Tryz.sizeOf5]

def idxM (f : Mv → Bool) : List Mv → Nat → Int
  | [], _ => -1
  | x :: r, i => if f x then i else idxM f r (i + 1)
theorem idx_at {f : Mv → Bool} {xs : List (El moveT)} {i : Nat} (h : i < xs.length) : idxM f (xs.drop i) i = if f (xs.getD ((i : Nat) : Int).toNat (zero moveT)) then (i : Int) else idxM f (xs.drop (i + 1)) (i + 1) := by
  have key : ∀ (l : List Mv), i < l.length → idxM f (l.drop i) i = if f (l.getD i (zero moveT)) then (i : Int) else idxM f (l.drop (i + 1)) (i + 1) := fun l hl => by
    rw [List.drop_eq_getElem_cons hl, List.getD_eq_getElem?_getD, List.getElem?_eq_getElem hl]; rfl
  exact key xs h
theorem idx_yes {f : Mv → Bool} {xs : List (El moveT)} {i : Nat} (h : i < xs.length) (hf : f (xs.getD ((i : Nat) : Int).toNat (zero moveT)) = true) : idxM f (xs.drop i) i = (i : Int) := by rw [idx_at h, if_pos hf]
theorem idx_no {f : Mv → Bool} {xs : List (El moveT)} {i : Nat} (h : i < xs.length) (hf : f (xs.getD ((i : Nat) : Int).toNat (zero moveT)) = false) : idxM f (xs.drop i) i = idxM f (xs.drop (i + 1)) (i + 1) := by rw [idx_at h, if_neg (by rw [hf]; simp)]
theorem idx_rng (f : Mv → Bool) : ∀ (xs : List Mv) (k : Nat), idxM f xs k = -1 ∨ ((k : Int) ≤ idxM f xs k ∧ idxM f xs k < (k : Int) + xs.length)
  | [], k => .inl rfl
  | x :: r, k => by
    unfold idxM; split
    · right; simp only [List.length_cons]; omega
    · rcases idx_rng f r (k + 1) with h | h
      · exact .inl h
      · right; simp only [List.length_cons]; omega
def hasM (m : Mv) (xs : List Mv) : Bool := decide (0 ≤ idxM (eqv moveT m) xs 0)
theorem wf_move (m : Mv) : wf moveT m := ⟨trivial, trivial, trivial, trivial, trivial, trivial⟩
def setProm (m : Mv) (k : Int) : Mv := (m.1, m.2.1, k, m.2.2.2)
def promAt (m : Mv) (l : List (El u8)) : Nat → Int
  | 0 => mP m
  | i + 1 => l.getD ((i : Nat) : Int).toNat (zero u8)
def mAt (m : Mv) (l : List (El u8)) (i : Nat) : Mv := (m.1, m.2.1, promAt m l i, m.2.2.2)
def eachL (p : Pos) (m : Mv) : List Mv := if (!decide (kind (pb p (mF m)) = 1) || !decide (rankP (tu p) (mT m) = 7)) = true then [m] else (show List Int from promP (vr p)).map (setProm m)
theorem app_get (A : List Mv) (m : Mv) (rest : List Mv) : (A ++ ([m] ++ rest))[A.length]? = some m := by simp
theorem app_map (A : List Mv) (m : Mv) (l : List (El u8)) (rest : List Mv) {i : Nat} (h : i < l.length) : (A ++ ((show List Int from l).map (setProm m) ++ rest))[A.length + i]? = some (mAt m l (i + 1)) := by
  have key : ∀ l : List Int, i < l.length → (A ++ (l.map (setProm m) ++ rest))[A.length + i]? = some (m.1, m.2.1, l.getD i 0, m.2.2.2) := fun l hl => by
    rw [List.getElem?_append_right yo, Nat.add_sub_cancel_left, List.getElem?_append_left (by rw [List.length_map]; exact hl), List.getElem?_map, List.getElem?_eq_getElem hl, List.getD_eq_getElem?_getD, List.getElem?_eq_getElem hl]; rfl
  exact key l h
theorem prom_len (v : Int) : (promP v).length ≤ 5 := by
  unfold promP
  by_cases h4 : v = 4
  · rw [if_pos h4]; decide
  · rw [if_neg h4]
    by_cases h8 : v < 8
    · rw [if_pos h8]; decide
    · rw [if_neg h8]; decide
theorem prom_rng (v : Int) (i : Nat) : 0 ≤ (promP v).getD ((i : Nat) : Int).toNat (zero u8) ∧ (promP v).getD ((i : Nat) : Int).toNat (zero u8) ≤ 255 := by
  have key : ∀ l : List Int, (∀ x ∈ l, 0 ≤ x ∧ x ≤ 255) → 0 ≤ l.getD i 0 ∧ l.getD i 0 ≤ 255 := fun l h => by
    rw [List.getD_eq_getElem?_getD]
    cases hx : l[i]? with
    | none => simp
    | some x => exact h x (List.mem_of_getElem? hx)
  refine key _ ?_
  unfold promP
  by_cases h4 : v = 4
  · rw [if_pos h4]; decide
  · rw [if_neg h4]
    by_cases h8 : v < 8
    · rw [if_pos h8]; decide
    · rw [if_neg h8]; decide
theorem eachL_len (p : Pos) (m : Mv) : (eachL p m).length ≤ 5 := by
  unfold eachL; split
  · exact Nat.le_of_ble_eq_true rfl
  · rw [List.length_map]; exact prom_len _
theorem bits_at (b : BitVec 64) (j : Nat) : 0 ≤ (bitsOf b).getD ((j : Nat) : Int).toNat (zero i64) ∧ (bitsOf b).getD ((j : Nat) : Int).toNat (zero i64) < 64 := by
  have key : ∀ (l : List Int), (∀ x ∈ l, 0 ≤ x ∧ x < 64) → 0 ≤ l.getD j 0 ∧ l.getD j 0 < 64 := fun l h => by
    rw [List.getD_eq_getElem?_getD]
    cases hx : l[j]? with
    | none => simp
    | some x => exact h x (List.mem_of_getElem? hx)
  exact key _ fun x hx => by obtain ⟨i, h1, _, rfl⟩ := bitsOf_mem.1 hx; omega
def stepL (p : Pos) (own oth : BitVec 64) (s : Int) : List Mv := (show List Int from bitsOf (toP p own oth s)).flatMap fun t => eachL p (s, t, (0 : Int), (0 : Int), false, ())
def movesL (p : Pos) (own oth : BitVec 64) : List Mv := (show List Int from bitsOf own).flatMap (stepL p own oth)
def preI (p : Pos) (own oth : BitVec 64) (i : Nat) : List Mv := ((show List Int from bitsOf own).take i).flatMap (stepL p own oth)
def atI (own : BitVec 64) (i : Nat) : Int := (bitsOf own).getD ((i : Nat) : Int).toNat (zero i64)
def preJ (p : Pos) (own oth : BitVec 64) (i j : Nat) : List Mv := preI p own oth i ++ ((show List Int from bitsOf (toP p own oth (atI own i))).take j).flatMap fun t => eachL p (atI own i, t, (0 : Int), (0 : Int), false, ())
theorem preJ_0 (p : Pos) (own oth : BitVec 64) (i : Nat) : preJ p own oth i 0 = preI p own oth i := by
  unfold preJ; simp
theorem take_flat {α : Type} (f : Int → List α) (l : List Int) (d : Int) {i : Nat} (h : i < l.length) : (l.take (i + 1)).flatMap f = (l.take i).flatMap f ++ f (l.getD i d) := by
  rw [List.take_add_one, List.getElem?_eq_getElem h, List.flatMap_append, List.getD_eq_getElem?_getD, List.getElem?_eq_getElem h]; simp
theorem all_flat {α : Type} (f : Int → List α) (l : List Int) (d : Int) {i : Nat} (h : i < l.length) : l.flatMap f = (l.take i).flatMap f ++ (f (l.getD i d) ++ (l.drop (i + 1)).flatMap f) := by
  conv => lhs; rw [← List.take_append_drop (i + 1) l, List.flatMap_append, take_flat f l d h]
  rw [List.append_assoc]
theorem preI_next {p : Pos} {own oth : BitVec 64} {i j : Nat} (h : i < (bitsOf own).length) (hj : (bitsOf (toP p own oth (atI own i))).length ≤ j) : preI p own oth (i + 1) = preJ p own oth i j := by
  unfold preI preJ
  have e : (show List Int from bitsOf (toP p own oth (atI own i))).take j = bitsOf (toP p own oth (atI own i)) := List.take_of_length_le hj
  rw [e]
  exact take_flat (stepL p own oth) (bitsOf own) 0 h
theorem preJ_next {p : Pos} {own oth : BitVec 64} {i j : Nat} (h : j < (bitsOf (toP p own oth (atI own i))).length) : preJ p own oth i (j + 1) = preJ p own oth i j ++ eachL p (atI own i, atI (toP p own oth (atI own i)) j, (0 : Int), (0 : Int), false, ()) := by
  unfold preJ
  rw [List.append_assoc]
  congr 1
  exact take_flat (fun t => eachL p (atI own i, t, (0 : Int), (0 : Int), false, ())) (bitsOf (toP p own oth (atI own i))) 0 h
theorem preI_all {p : Pos} {own oth : BitVec 64} {i : Nat} (h : (bitsOf own).length ≤ i) : preI p own oth i = movesL p own oth := by
  unfold preI movesL
  have e : (show List Int from bitsOf own).take i = bitsOf own := List.take_of_length_le h
  rw [e]
theorem moves_split {p : Pos} {own oth : BitVec 64} {i j : Nat} (hi : i < (bitsOf own).length) (h : j < (bitsOf (toP p own oth (atI own i))).length) : ∃ rest, movesL p own oth = preJ p own oth i j ++ (eachL p (atI own i, atI (toP p own oth (atI own i)) j, (0 : Int), (0 : Int), false, ()) ++ rest) := by
  have h1 := all_flat (stepL p own oth) (bitsOf own) 0 hi
  have h2 := all_flat (fun t => eachL p (atI own i, t, (0 : Int), (0 : Int), false, ())) (bitsOf (toP p own oth (atI own i))) 0 h
  have e1 : movesL p own oth = preI p own oth i ++ (stepL p own oth (atI own i) ++ ((show List Int from bitsOf own).drop (i + 1)).flatMap (stepL p own oth)) := h1
  have e2 : stepL p own oth (atI own i) = ((show List Int from bitsOf (toP p own oth (atI own i))).take j).flatMap (fun t => eachL p (atI own i, t, (0 : Int), (0 : Int), false, ())) ++ (eachL p (atI own i, atI (toP p own oth (atI own i)) j, (0 : Int), (0 : Int), false, ()) ++ ((show List Int from bitsOf (toP p own oth (atI own i))).drop (j + 1)).flatMap (fun t => eachL p (atI own i, t, (0 : Int), (0 : Int), false, ()))) := h2
  refine ⟨((show List Int from bitsOf (toP p own oth (atI own i))).drop (j + 1)).flatMap (fun t => eachL p (atI own i, t, (0 : Int), (0 : Int), false, ())) ++ ((show List Int from bitsOf own).drop (i + 1)).flatMap (stepL p own oth), ?_⟩
  rw [e1, e2]; unfold preJ
  simp only [List.append_assoc]

theorem c_slices_Index (v : Value) (xs : List (El moveT)) (m : Mv) (M : List Fact) (hl : HasList M v moveT xs) (hlen : xs.length ≤ 1000000) : Pure Tryz.prog 99 [v, enc moveT m] M (.int .i64 (idxM (eqv moveT m) xs 0)) := by
 have hmw : ∀ m : Mv, wf moveT m := fun _ => ⟨trivial, trivial, trivial, trivial, trivial, trivial⟩
 refine pure_of_W (n := 19) Tryz.func99 rfl rfl yn ?_
 refine w2 (fun w0 => ?_)
 refine LO_l rfl (by decide : 3 < 19) (ol_box (t := moveT) rfl rfl rfl yf (fun b1 => ?_))
 refine zA ?_
 refine LO_nil (W_seq (w1 ((yM ?_))))
 refine yR (ov_len rfl rfl xaby Tryz.underlying48) ?_
 refine yM ?_
 refine RO_nil (W_block (W_loop (σ := Nat) (fun s => s ≤ xs.length ∧ idxM (eqv moveT m) xs 0 = idxM (eqv moveT m) (xs.drop s) s) (fun s => [(0, v), (3, ptrv b1 moveT []), (6, v), (7, .int .i64 (xs.length : Int)), (8, .int .i64 (s : Int))]) (fun s => .box b1 55 moveT _ :: M) (fun s => xs.length - s) (0) ⟨by omega, rfl⟩ ⟨rfl, rfl, rfl, rfl, rfl, trivial⟩ yc ?_))
 rintro i ⟨hI, hJ⟩
 refine w1 ((yR (ov_lss rfl rfl rfl) ?_))
 refine RO_nil (W_seq (W_cond rfl (fun hc1 => ?_) (fun hc1 => ?_)))
 ·
  try simp only [yS] at hc1
  refine W_skip (W_seq (W_block (w1 ((yM ?_)))))
  refine yA_ ?_
  refine RO_nil (W_seq (W_regd mixed yk ?_))
  refine yR (ov_load rfl rfl ye trivial rfl rfl tok55) ?_
  refine yM ?_
  refine yM ?_
  refine yR (ov_indexAddr_sl (t := moveT) rfl rfl xaby rfl Tryz.underlying48 Tryz.sizeOf55 ya ya) ?_
  refine yR (ov_load_e (t := moveT) (p := []) rfl rfl xaby ya trivial rfl rfl tok55) ?_
  refine yR (ov_eqlA (t := moveT) (d := 6) rfl rfl rfl rfl yn eqt55 eqg55 yf yf) ?_
  refine RO_nil (W_cond rfl (fun hc2 => ?_) (fun hc2 => ?_))
  ·
   refine w1 ((yM ?_))
   refine yA_ ?_
   refine RO_nil (W_ret ⟨trivial, yc, (ResV_tmp1 rfl rfl ?_)⟩)
   exact val_int (by first | (rw [hJ, idx_yes yo hc2]) | (rw [hJ, List.drop_eq_nil_of_le yo]; rfl))
  ·
   refine W_skip (W_reg (yR (ov_add rfl rfl rfl ya) ?_))
   refine yM ?_
   refine RO_nil ?_
   exact ⟨i + 1, yo, ⟨by omega, by rw [hJ, idx_no yo hc2]⟩, ⟨rfl, rfl, rfl, rfl, rfl, trivial⟩, yc⟩
 ·
  try simp only [yS] at hc1
  refine W_exit (w1 ((yA_ ?_)))
  refine RO_nil (W_ret ⟨trivial, yc, (ResV_tmp1 rfl rfl ?_)⟩)
  exact val_int (by first | (rw [hJ, idx_yes yo hc2]) | (rw [hJ, List.drop_eq_nil_of_le yo]; rfl))

theorem c_slices_Contains (v : Value) (xs : List (El moveT)) (m : Mv) (M : List Fact) (hl : HasList M v moveT xs) (hlen : xs.length ≤ 1000000) : Pure Tryz.prog 45 [v, enc moveT m] M (.bool (hasM m xs)) := by
 have hmw : ∀ m : Mv, wf moveT m := fun _ => ⟨trivial, trivial, trivial, trivial, trivial, trivial⟩
 refine pure_of_W (n := 9) Tryz.func45 rfl rfl yn ?_
 refine w2 (fun w0 => ?_)
 refine LO_l rfl (by decide : 3 < 9) (ol_box (t := moveT) rfl rfl rfl yf (fun b1 => ?_))
 refine zA ?_
 refine LO_nil (w1 ((yM ?_)))
 refine yR (ov_load rfl rfl ye trivial rfl rfl tok55) ?_
 refine yP (yV rfl rfl rfl Tryz.call99 (c_slices_Index v xs m _ (HasList.sub (List.sublist_cons_self _ _) hl) hlen)) ?_
 refine yR (ov_geq rfl rfl rfl) ?_
 refine yA_ ?_
 refine RO_nil (W_ret ⟨trivial, yc, (ResV_tmp1 rfl rfl ?_)⟩)
 rfl

theorem c_pseudo_side_each (p : Pos) (hp : POK p) (own oth : BitVec 64) (m : Mv) (cb : Value) (Mc Mx : Nat → List Fact → Prop) (seq Ap rest : List Mv) (hs : seq = Ap ++ (eachL p m ++ rest)) (hy : ∀ k vals F M, k < seq.length → PreL (fun m : Mv => [enc moveT m]) seq k vals F → Mc k M → CallV Tryz.prog cb vals (F ++ M) (fun v M' => ∃ M1, M' = F ++ M1 ∧ ((v = .bool true ∧ Mc (k + 1) M1) ∨ (v = .bool false ∧ Mx k M1)))) (M : List Fact) (hM : Mc Ap.length M) (ht : tu p ≤ 1) (h0 : 0 ≤ mF m) (h1 : mF m < 64) (h2 : 0 ≤ mT m) (h3 : mT m < 64) : Con Tryz.prog 195 [enc sideT (p, own, oth, ()), enc moveT m, cb] M (fun v M' => (v = .bool true ∧ Mc (Ap.length + (eachL p m).length) M') ∨ (v = .bool false ∧ ∃ k, k < seq.length ∧ Mx k M')) := by
 obtain ⟨hb, hpw, hvr, htu, hpg, hvr0, htu0⟩ := hp.head
 have hws : wf sideT (p, own, oth, ()) := ⟨hpw, trivial, trivial, trivial⟩
 have ht2 := ht
 simp only [tu] at ht
 simp only [mF] at h0 h1
 simp only [mT] at h2 h3
 have hpl := prom_len (vr p)
 have hml := wf_move m
 refine con_of_G (n := 46) Tryz.func195 rfl rfl yn ?_
 refine G_seq (G_regl (fun w0 => ?_))
 refine GO_l rfl (by decide : 3 < 46) (ol_box (t := sideT) rfl rfl rfl yf (fun b1 => ?_))
 refine GO_l rfl (by decide : 4 < 46) (ol_box (t := moveT) rfl rfl rfl yf (fun b2 => ?_))
 refine GO_op rfl rfl yd (OpX.v (ov_assign rfl rfl)) ?_
 refine GO_nil (G_seq (G_seq (G_regl (fun w0 => ?_))))
 refine GO_op rfl rfl yd (OpX.v (ov_fieldAddr rfl rfl fa55_0 rfl)) ?_
 refine GO_op rfl rfl yd (OpX.v (ov_load rfl rfl ye ⟨trivial, yn⟩ rfl rfl tok26)) ?_
 refine GO_op rfl rfl yd (OpX.v (ov_fieldAddr rfl rfl fa123_0 rfl)) ?_
 refine GO_op rfl rfl yd (OpX.v (ov_fieldAddr rfl rfl fa31_1 rfl)) ?_
 refine GO_op rfl rfl yd (OpX.v (ov_indexAddr rfl rfl rfl Tryz.underlying22 rfl Tryz.sizeOf5 ya ya)) ?_
 refine GO_op rfl rfl yd (OpX.v (ov_load rfl rfl ye ⟨⟨⟨trivial, yn⟩, yn⟩, (tn ya ya)⟩ rfl rfl tok5)) ?_
 refine GO_op rfl rfl yd (yV rfl rfl rfl Tryz.call105 (by apply c_pieces_Kind <;> exact yz)) ?_
 refine GO_op rfl rfl yd (OpX.v (ov_neq rfl rfl rfl)) ?_
 refine GO_op rfl rfl yd (OpX.v (ov_move rfl rfl)) ?_
 refine GO_g1 rfl rfl rfl rfl rfl yd (fun hg => OpX.v (ov_fieldAddr rfl rfl fa123_0 rfl)) ?_
 refine GO_g1 rfl rfl rfl rfl rfl yd (fun hg => OpX.v (ov_fieldAddr rfl (look_gv rfl (bq hg)) fa31_4 rfl)) ?_
 refine GO_g1 rfl rfl rfl rfl rfl yd (fun hg => OpX.v (ov_load rfl (look_gv rfl (bq hg)) ye ⟨⟨trivial, yn⟩, yn⟩ rfl rfl tok5)) ?_
 refine GO_g1 rfl rfl rfl rfl rfl yd (fun hg => OpX.v (ov_fieldAddr rfl rfl fa55_1 rfl)) ?_
 refine GO_g1 rfl rfl rfl rfl rfl yd (fun hg => OpX.v (ov_load rfl (look_gv rfl (bq hg)) ye ⟨trivial, yn⟩ rfl rfl tok26)) ?_
 refine GO_g1 rfl rfl rfl rfl rfl yd (fun hg => OpX.v (ov_convn rfl (look_gv rfl (bq hg)) Tryz.underlying26 Tryz.underlying3 ya)) ?_
 refine GO_g1 rfl rfl rfl rfl rfl yd (fun hg => by have hgx := hg; (try simp only [yS] at hgx); exact yV rfl rfl (looks_cons (look_gv rfl (bq hg)) (looks_cons (look_gv rfl (bq hg)) looks_nil)) Tryz.call214 (by apply c_pseudo_rank <;> exact yz)) ?_
 refine GO_g1 rfl rfl rfl rfl rfl yd (fun hg => OpX.v (ov_neq rfl (look_gv rfl (bq hg)) rfl)) ?_
 refine GO_op rfl rfl yd (OpX.v (ov_or rfl rfl rfl rfl (fun h => bq h))) ?_
 refine GO_nil (G_cond rfl (fun hc1 => ?_) (fun hc1 => ?_))
 ·
  have hE : eachL p m = [m] := if_pos hc1
  have hget : seq[Ap.length]? = some m := by rw [hs, hE]; exact app_get Ap m rest
  have hlt : Ap.length < seq.length := (List.getElem?_eq_some_iff.1 hget).1
  refine G_seq (G_regl (fun w0 => ?_))
  refine GO_op rfl rfl yd (OpX.v (ov_move rfl rfl)) ?_
  refine GO_op rfl rfl yd (OpX.v (ov_load rfl rfl ye trivial rfl rfl tok55)) ?_
  refine GO_callv rfl (by decide : 29 < 46) rfl rfl rfl (CallV.mono (CallV.frame (A := [_, _]) (hy Ap.length _ [] _ hlt ⟨_, hget, rfl, rfl⟩ hM)) ?_)
  rintro v M' ⟨M1, rfl, Mz, e1, (⟨rfl, hq1⟩ | ⟨rfl, hq1⟩)⟩
  ·
   obtain rfl : M1 = Mz := e1
   show GO Tryz.prog none 46 [] _ _ _ _ _ _ (.box b2 55 moveT m :: .box b1 123 sideT (p, own, oth, ()) :: M1)
   refine GO_op rfl rfl yd (OpX.v (ov_assign rfl rfl)) ?_
   refine GO_nil (G_ret ?_)
   refine ⟨trivial, .inl ⟨rfl, _, _, (ResV_tmp1 rfl rfl rfl), xayy, ?_⟩⟩
   exact xbcy
  ·
   obtain rfl : M1 = Mz := e1
   show GO Tryz.prog none 46 [] _ _ _ _ _ _ (.box b2 55 moveT m :: .box b1 123 sideT (p, own, oth, ()) :: M1)
   refine GO_op rfl rfl yd (OpX.v (ov_assign rfl rfl)) ?_
   refine GO_nil (G_ret ?_)
   refine ⟨trivial, .inl ⟨rfl, _, _, (ResV_tmp1 rfl rfl rfl), xayy, ?_⟩⟩
   exact xbcy
 ·
  have hE : eachL p m = (promP (vr p)).map (setProm m) := if_neg (Bool.eq_false_iff.1 hc1)
  refine G_skip ?_
  refine G_seq (G_seq (G_regl (fun w0 => ?_)))
  refine GO_op rfl rfl yd (OpX.v (ov_fieldAddr rfl rfl fa123_0 rfl)) ?_
  refine GO_op rfl rfl yd (OpX.v (ov_fieldAddr rfl rfl fa31_0 rfl)) ?_
  refine GO_op rfl rfl yd (OpX.v (ov_load rfl rfl ye ⟨⟨trivial, yn⟩, yn⟩ rfl rfl tok5)) ?_
  refine GO_l rfl (by decide : 33 < 46) (ol_call (v0 := []) (v2 := []) rfl rfl rfl Tryz.call215 (Con.mono (by apply c_rules_Promotes <;> exact yz) (fun v1 M' h => ?_)))
  subst h
  refine GO_op rfl rfl yd (OpX.v (ov_len rfl rfl xaby Tryz.underlying43)) ?_
  refine GO_op rfl rfl yd (OpX.v (ov_move rfl rfl)) ?_
  refine GO_nil (G_block (G_loop (σ := Nat × List Fact) (fun s => s.1 ≤ (promP (vr p)).length ∧ Mc (Ap.length + s.1) s.2) (fun s => [(2, cb), (4, ptrv b2 moveT []), (33, v1), (34, .int .i64 ((promP (vr p)).length : Int)), (35, .int .i64 (s.1 : Int))]) (fun s => .row v1 5 u8 (promP (vr p)) :: .box b2 55 moveT (mAt m (promP (vr p)) s.1) :: .box b1 123 sideT (p, own, oth, ()) :: s.2) (fun s => (promP (vr p)).length - s.1) ((0, M)) ⟨by simp, hM⟩ ⟨rfl, rfl, rfl, rfl, rfl, trivial⟩ yc ?_))
  rintro ⟨i, Mq⟩ ⟨hI, hq⟩
  simp only at hI hq
  refine G_seq (G_regl (fun w0 => ?_))
  refine GO_op rfl rfl yd (OpX.v (ov_lss rfl rfl rfl)) ?_
  refine GO_nil (G_seq (G_cond rfl (fun hc2 => ?_) (fun hc2 => ?_)))
  ·
   try simp only [yS] at hc2
   have hget : seq[Ap.length + i]? = some (mAt m (promP (vr p)) (i + 1)) := by rw [hs, hE]; exact app_map Ap _ _ rest yo
   have hlt : Ap.length + i < seq.length := (List.getElem?_eq_some_iff.1 hget).1
   have hwm := wf_move (mAt m (promP (vr p)) i)
   have hkr := prom_rng (vr p) i
   refine G_skip ?_
   refine G_seq (G_block (G_seq (G_regl (fun w0 => ?_))))
   refine GO_op rfl rfl yd (OpX.v (ov_indexAddr_sl (t := u8) rfl rfl xaby rfl Tryz.underlying43 Tryz.sizeOf5 ya ya)) ?_
   refine GO_op rfl rfl yd (OpX.v (ov_load_e (t := u8) (p := []) rfl rfl xaby ya trivial rfl rfl tok5)) ?_
   refine GO_op rfl rfl yd (OpX.v (ov_assign rfl rfl)) ?_
   refine GO_nil (G_seq (G_regl (fun w0 => ?_)))
   refine GO_op rfl rfl yd (OpX.v (ov_move rfl rfl)) ?_
   refine GO_op rfl rfl yd (OpX.v (ov_fieldAddr rfl rfl fa55_2 rfl)) ?_
   refine GO_l rfl trivial (ol_st1 rfl rfl rfl ⟨trivial, yn⟩ rfl yf tok5 ?_)
   refine GO_nil (G_seq (G_regl (fun w0 => ?_)))
   refine GO_op rfl rfl yd (OpX.v (ov_move rfl rfl)) ?_
   refine GO_op rfl rfl yd (OpX.v (ov_load rfl rfl ye trivial rfl rfl tok55)) ?_
   refine GO_callv rfl (by decide : 43 < 46) rfl rfl rfl (CallV.mono (CallV.frame (A := [_, _, _]) (hy (Ap.length + i) _ [] _ hlt ⟨_, hget, rfl, rfl⟩ hq)) ?_)
   rintro v M' ⟨M1, rfl, Mz, e1, (⟨rfl, hq1⟩ | ⟨rfl, hq1⟩)⟩
   ·
    obtain rfl : M1 = Mz := e1
    show GO Tryz.prog none 46 [] _ _ _ _ _ _ (.row v1 5 u8 (promP (vr p)) :: .box b2 55 moveT (mAt m (promP (vr p)) (i + 1)) :: .box b1 123 sideT (p, own, oth, ()) :: M1)
    refine GO_op rfl rfl yd (OpX.v (ov_not rfl rfl)) ?_
    refine GO_nil (G_condf rfl ?_)
    refine G_skip ?_
    refine G_regl (fun w0 => ?_)
    refine GO_op rfl rfl yd (OpX.v (ov_add rfl rfl rfl ya)) ?_
    refine GO_op rfl rfl yd (OpX.v (ov_move rfl rfl)) ?_
    refine GO_nil ?_
    exact ⟨rfl, (i + 1, M1), xaly, ⟨by simp only; omega, hq1⟩, ⟨rfl, rfl, rfl, rfl, rfl, trivial⟩, yc⟩
   ·
    obtain rfl : M1 = Mz := e1
    show GO Tryz.prog none 46 [] _ _ _ _ _ _ (.row v1 5 u8 (promP (vr p)) :: .box b2 55 moveT (mAt m (promP (vr p)) (i + 1)) :: .box b1 123 sideT (p, own, oth, ()) :: M1)
    refine GO_op rfl rfl yd (OpX.v (ov_not rfl rfl)) ?_
    refine GO_nil (G_condt rfl ?_)
    refine G_seq (G_regl (fun w0 => ?_))
    refine GO_op rfl rfl yd (OpX.v (ov_assign rfl rfl)) ?_
    refine GO_nil (G_ret ?_)
    refine ⟨trivial, .inl ⟨rfl, _, _, (ResV_tmp1 rfl rfl rfl), xayy, ?_⟩⟩
    exact xbcy
  ·
   try simp only [yS] at hc2
   refine G_exit ?_
   refine G_seq (G_regl (fun w0 => ?_))
   refine GO_op rfl rfl yd (OpX.v (ov_assign rfl rfl)) ?_
   refine GO_nil (G_ret ?_)
   refine ⟨trivial, .inl ⟨rfl, _, _, (ResV_tmp1 rfl rfl rfl), xayy, ?_⟩⟩
   exact xbcy

theorem c_pseudo_side_moves (p : Pos) (hp : POK p) (own oth : BitVec 64) (M : List Fact) : Con Tryz.prog 158 [enc sideT (p, own, oth, ())] M (fun v M' => ∃ b1, v = .func (.func 193) #[] #[ptrv b1 sideT []] ∧ M' = .box b1 123 sideT (p, own, oth, ()) :: M) := by
 obtain ⟨hb, hpw, hvr, htu, hpg, hvr0, htu0⟩ := hp.head
 have hws : wf sideT (p, own, oth, ()) := ⟨hpw, trivial, trivial, trivial⟩
 refine con_of_W (n := 4) Tryz.func158 rfl rfl yn ?_
 refine w2 (fun w0 => ?_)
 refine LO_l rfl (by decide : 1 < 4) (ol_box (t := sideT) rfl rfl rfl yf (fun b1 => ?_))
 refine zA ?_
 refine LO_nil (w1 ((yR (ov_makeFunc rfl rfl rfl) ?_)))
 refine yA_ ?_
 refine RO_nil (W_ret ⟨trivial, _, _, (ResV_tmp1 rfl rfl rfl), yc, ?_⟩)
 exact ⟨b1, rfl, rfl⟩

theorem c_pseudo_side_moves_1 (p : Pos) (hp : POK p) (own oth : BitVec 64) (b1 t1 : Nat) (ht : tu p ≤ 1) : Seq Tryz.prog 193 [ptrv b1 sideT []] [.box b1 t1 sideT (p, own, oth, ()), TAB] (movesL p own oth).length (PreL (fun m : Mv => [enc moveT m]) (movesL p own oth)) := by
 intro cb Mc Mx hy M hM
 refine con_of_G (n := 37) Tryz.func193 rfl rfl yn ?_
 show G Tryz.prog none 37 _ _ _ _ (.box b1 t1 sideT (p, own, oth, ()) :: TAB :: M)
 obtain ⟨hb, hpw, hvr, htu, hpg, hvr0, htu0⟩ := hp.head
 have hws : wf sideT (p, own, oth, ()) := ⟨hpw, trivial, trivial, trivial⟩
 have hbl := bitsOf_len own
 refine G_seq (G_regl (fun w0 => ?_))
 refine GO_op rfl rfl yd (OpX.v (ov_fieldAddr rfl rfl fa123_1 rfl)) ?_
 refine GO_op rfl rfl yd (OpX.v (ov_load rfl rfl ye ⟨trivial, yn⟩ rfl rfl tok23)) ?_
 refine GO_l rfl (by decide : 10 < 37) (ol_call (v0 := []) (v2 := []) rfl rfl rfl Tryz.call112 (Con.mono (by apply c_bits_List <;> exact yz) (fun vA M' h => ?_)))
 subst h
 refine GO_op rfl rfl yd (OpX.v (ov_len rfl rfl xaby Tryz.underlying132)) ?_
 refine GO_op rfl rfl yd (OpX.v (ov_move rfl rfl)) ?_
 refine GO_nil (G_block (G_loop (σ := Nat × List Fact) (fun s => s.1 ≤ (bitsOf own).length ∧ Mc (preI p own oth s.1).length s.2) (fun s => [(0, cb), (1, ptrv b1 sideT []), (10, vA), (11, .int .i64 ((bitsOf own).length : Int)), (12, .int .i64 (s.1 : Int))]) (fun s => .row vA 3 i64 (bitsOf own) :: .box b1 t1 sideT (p, own, oth, ()) :: TAB :: s.2) (fun s => (bitsOf own).length - s.1) ((0, M)) ⟨by simp, hM⟩ ⟨rfl, rfl, rfl, rfl, rfl, trivial⟩ yc ?_))
 rintro ⟨i, Mq⟩ ⟨hI, hq⟩
 simp only at hI hq
 refine G_seq (G_regl (fun w0 => ?_))
 refine GO_op rfl rfl yd (OpX.v (ov_lss rfl rfl rfl)) ?_
 refine GO_nil (G_seq (G_cond rfl (fun hc1 => ?_) (fun hc1 => ?_)))
 ·
  try simp only [yS] at hc1
  have hs64 := bits_at own i
  have hix : ((i : Nat) : Int).toNat < (bitsOf own).length := by omega
  have hbl2 := bitsOf_len (toP p own oth ((bitsOf own).getD ((i : Nat) : Int).toNat (zero i64)))
  refine G_skip ?_
  refine G_seq (G_block (G_seq (G_regl (fun w0 => ?_))))
  refine GO_op rfl rfl yd (OpX.v (ov_indexAddr_sl (t := i64) rfl rfl xaby rfl Tryz.underlying132 Tryz.sizeOf3 ya ya)) ?_
  refine GO_op rfl rfl yd (OpX.v (ov_load_e (t := i64) (p := []) rfl rfl xaby ya trivial rfl rfl tok3)) ?_
  refine GO_op rfl rfl yd (OpX.v (ov_assign rfl rfl)) ?_
  refine GO_nil (G_seq (G_regl (fun w0 => ?_)))
  refine GO_op rfl rfl yd (OpX.v (ov_load rfl rfl ye trivial rfl rfl tok123)) ?_
  refine GO_op rfl rfl yd (OpX.v (ov_move rfl rfl)) ?_
  refine GO_op rfl rfl yd (yV rfl rfl rfl Tryz.call194 (c_pseudo_side_to p hp own oth _ _ ye ht hs64.1 hs64.2)) ?_
  refine GO_l rfl (by decide : 19 < 37) (ol_call (v0 := []) (v2 := []) rfl rfl rfl Tryz.call112 (Con.mono (by apply c_bits_List <;> exact yz) (fun vB M' h => ?_)))
  subst h
  refine GO_op rfl rfl yd (OpX.v (ov_len rfl rfl xaby Tryz.underlying132)) ?_
  refine GO_op rfl rfl yd (OpX.v (ov_move rfl rfl)) ?_
  refine GO_nil (G_block (G_loop (σ := Nat × List Fact) (fun s => s.1 ≤ (bitsOf (toP p own oth ((bitsOf own).getD ((i : Nat) : Int).toNat (zero i64)))).length ∧ Mc (preJ p own oth i s.1).length s.2) (fun s => [(0, cb), (1, ptrv b1 sideT []), (10, vA), (11, .int .i64 ((bitsOf own).length : Int)), (12, .int .i64 (i : Int)), (4, .int .i64 ((bitsOf own).getD ((i : Nat) : Int).toNat (zero i64))), (19, vB), (20, .int .i64 ((bitsOf (toP p own oth ((bitsOf own).getD ((i : Nat) : Int).toNat (zero i64)))).length : Int)), (21, .int .i64 (s.1 : Int))]) (fun s => .row vB 3 i64 (bitsOf (toP p own oth ((bitsOf own).getD ((i : Nat) : Int).toNat (zero i64)))) :: .row vA 3 i64 (bitsOf own) :: .box b1 t1 sideT (p, own, oth, ()) :: TAB :: s.2) (fun s => (bitsOf (toP p own oth ((bitsOf own).getD ((i : Nat) : Int).toNat (zero i64)))).length - s.1) ((0, Mq)) ⟨by simp, by rw [preJ_0]; exact hq⟩ ⟨rfl, rfl, rfl, rfl, rfl, rfl, rfl, rfl, rfl, trivial⟩ yc ?_))
  rintro ⟨j, Mr⟩ ⟨hJ, hr⟩
  simp only at hJ hr
  refine G_seq (G_regl (fun w0 => ?_))
  refine GO_op rfl rfl yd (OpX.v (ov_lss rfl rfl rfl)) ?_
  refine GO_nil (G_seq (G_cond rfl (fun hc2 => ?_) (fun hc2 => ?_)))
  ·
   try simp only [yS] at hc2
   have hs8 := bits_rng own i
   have ht64 := bits_at (toP p own oth ((bitsOf own).getD ((i : Nat) : Int).toNat (zero i64))) j
   have ht8 := bits_rng (toP p own oth ((bitsOf own).getD ((i : Nat) : Int).toNat (zero i64))) j
   have hjl : j < (bitsOf (toP p own oth (atI own i))).length := (show j < (bitsOf (toP p own oth ((bitsOf own).getD ((i : Nat) : Int).toNat (zero i64)))).length by omega)
   obtain ⟨rest, hrest⟩ := moves_split (p := p) (oth := oth) (own := own) (i := i) (j := j) yo hjl
   refine G_skip ?_
   refine G_seq (G_block (G_seq (G_regl (fun w0 => ?_))))
   refine GO_op rfl rfl yd (OpX.v (ov_indexAddr_sl (t := i64) rfl rfl xaby rfl Tryz.underlying132 Tryz.sizeOf3 ya ya)) ?_
   refine GO_op rfl rfl yd (OpX.v (ov_load_e (t := i64) (p := []) rfl rfl xaby ya trivial rfl rfl tok3)) ?_
   refine GO_op rfl rfl yd (OpX.v (ov_assign rfl rfl)) ?_
   refine GO_nil (G_seq (G_regl (fun w0 => ?_)))
   refine GO_op rfl rfl yd (OpX.v (ov_move rfl rfl)) ?_
   refine GO_op rfl rfl yd (OpX.v (ov_convn rfl rfl Tryz.underlying3 Tryz.underlying26 ya)) ?_
   refine GO_op rfl rfl yd (OpX.v (ov_move rfl rfl)) ?_
   refine GO_op rfl rfl yd (OpX.v (ov_convn rfl rfl Tryz.underlying3 Tryz.underlying26 ya)) ?_
   refine GO_op rfl rfl yd (OpX.v (ov_build (fs := fs54) (ds := [⟨0, _⟩, ⟨1, _⟩]) rfl rfl bl55 ⟨yn, yf, ⟨yn, yf, trivial⟩⟩ rfl)) ?_
   refine GO_l rfl (by decide : 7 < 37) (ol_alloc (t := moveT) rfl tok55 yf (fun b1 => ?_))
   refine GO_l rfl trivial (ol_sw0 rfl rfl rfl rfl yf tok55 ?_)
   refine GO_nil (G_seq (G_regl (fun w0 => ?_)))
   refine GO_op rfl rfl yd (OpX.v (ov_load rfl rfl ye trivial rfl rfl tok123)) ?_
   refine GO_op rfl rfl yd (OpX.v (ov_load rfl rfl ye trivial rfl rfl tok55)) ?_
   refine GO_op rfl rfl yd (OpX.v (ov_move rfl rfl)) ?_
   refine GO_l rfl (by decide : 33 < 37) (ol_call (v0 := []) (v2 := []) rfl rfl rfl Tryz.call195 (Con.mono (Con.frame (A := [_, _, _, _, _]) (c_pseudo_side_each p hp own oth _ cb Mc Mx _ _ rest hrest hy _ hr ht hs64.1 hs64.2 ht64.1 ht64.2)) ?_))
   rintro v M' ⟨M1, rfl, (⟨rfl, hq1⟩ | ⟨rfl, kx, hkx, hq1⟩)⟩
   ·
    show GO Tryz.prog none 37 [] _ _ _ _ _ _ (_ :: _ :: _ :: _ :: _ :: M1)
    refine GO_op rfl rfl yd (OpX.v (ov_not rfl rfl)) ?_
    refine GO_nil (G_condf rfl ?_)
    refine G_skip ?_
    refine G_regl (fun w0 => ?_)
    refine GO_op rfl rfl yd (OpX.v (ov_add rfl rfl rfl ya)) ?_
    refine GO_op rfl rfl yd (OpX.v (ov_move rfl rfl)) ?_
    refine GO_nil ?_
    exact ⟨rfl, (j + 1, M1), xaly, ⟨by simp only; omega, by rw [preJ_next hjl, List.length_append]; exact hq1⟩, ⟨rfl, rfl, rfl, rfl, rfl, rfl, rfl, rfl, rfl, trivial⟩, yc⟩
   ·
    show GO Tryz.prog none 37 [] _ _ _ _ _ _ (_ :: _ :: _ :: _ :: _ :: M1)
    refine GO_op rfl rfl yd (OpX.v (ov_not rfl rfl)) ?_
    refine GO_nil (G_condt rfl ?_)
    refine G_ret ?_
    refine ⟨trivial, .inl ⟨rfl, _, _, (ResV_none rfl), yc, ?_⟩⟩
    first | exact .inl ⟨Mq, (by repeat (first | exact List.Sublist.refl _ | apply List.Sublist.cons)), by rw [← preI_all (i := i) yo]; exact hq⟩ | exact .inr ⟨kx, M1, hkx, (by repeat (first | exact List.Sublist.refl _ | apply List.Sublist.cons)), hq1⟩
  ·
   try simp only [yS] at hc2
   refine G_exit ?_
   refine G_regl (fun w0 => ?_)
   refine GO_op rfl rfl yd (OpX.v (ov_add rfl rfl rfl ya)) ?_
   refine GO_op rfl rfl yd (OpX.v (ov_move rfl rfl)) ?_
   refine GO_nil ?_
   exact ⟨rfl, (i + 1, Mr), xaly, ⟨by simp only; omega, by rw [preI_next yo (j := j) (show (bitsOf (toP p own oth ((bitsOf own).getD ((i : Nat) : Int).toNat (zero i64)))).length ≤ j by omega)]; exact hr⟩, ⟨rfl, rfl, rfl, rfl, rfl, trivial⟩, yc⟩
 ·
  try simp only [yS] at hc1
  refine G_exit ?_
  refine ⟨trivial, .inl ⟨rfl, _, _, (ResV_none rfl), yc, ?_⟩⟩
  first | exact .inl ⟨Mq, (by repeat (first | exact List.Sublist.refl _ | apply List.Sublist.cons)), by rw [← preI_all (i := i) yo]; exact hq⟩ | exact .inr ⟨kx, M1, hkx, (by repeat (first | exact List.Sublist.refl _ | apply List.Sublist.cons)), hq1⟩
end Go.Kw
set_option linter.unusedVariables false
namespace Go.Kw
open Go.Proofs


theorem of_side {p : Pos} (h : (ofS p).2 = true) : (ofS p).1 = (p, ofB p (tu p) 0, ofB p (1 - tu p) 0, ()) := by
  unfold ofS at *
  split at h
  · cases h
  · rename_i hn; rw [if_neg hn]
theorem ofS_wf {p : Pos} (hp : POK p) : wf sideT (ofS p).1 := by
  unfold ofS; split
  · exact wf_zero sideT
  · exact ⟨hp.wf, trivial, trivial, trivial⟩
theorem of_turn {p : Pos} (h : (ofS p).2 = true) : tu p ≤ 1 := by
  unfold ofS at *
  split at h
  · cases h
  · rename_i hn; simp only [Bool.or_eq_true, decide_eq_true_eq] at hn; omega
def pseudoL (p : Pos) : List Mv := if (ofS p).2 = true then movesL p (ofB p (tu p) 0) (ofB p (1 - tu p) 0) else []
theorem pseudoL_n {p : Pos} (h : (ofS p).2 = false) : pseudoL p = [] := by unfold pseudoL; rw [if_neg xasy]
theorem pseudoL_y {p : Pos} (h : (ofS p).2 = true) : pseudoL p = movesL p (ofB p (tu p) 0) (ofB p (1 - tu p) 0) := by unfold pseudoL; rw [if_pos h]
theorem flat_len {α : Type} (f : Int → List α) (c : Nat) (hf : ∀ x, (f x).length ≤ c) : ∀ l : List Int, (l.flatMap f).length ≤ l.length * c
  | [] => by simp
  | x :: l => by
    have h1 := flat_len f c hf l
    have h2 := hf x
    rw [List.flatMap_cons, List.length_append, List.length_cons, Nat.add_mul]; omega
theorem stepL_len (p : Pos) (own oth : BitVec 64) (s : Int) : (stepL p own oth s).length ≤ 320 := by
  have h1 := flat_len (fun t => eachL p (s, t, (0 : Int), (0 : Int), false, ())) 5 (fun t => eachL_len p _) (bitsOf (toP p own oth s))
  have h2 := bitsOf_len (toP p own oth s)
  have h3 : (bitsOf (toP p own oth s)).length * 5 ≤ 64 * 5 := Nat.mul_le_mul_right _ h2
  exact Nat.le_trans h1 h3
theorem movesL_len (p : Pos) (own oth : BitVec 64) : (movesL p own oth).length ≤ 20480 := by
  have h1 := flat_len (stepL p own oth) 320 (stepL_len p own oth) (bitsOf own)
  have h2 := bitsOf_len own
  have h3 : (bitsOf own).length * 320 ≤ 64 * 320 := Nat.mul_le_mul_right _ h2
  exact Nat.le_trans h1 h3
theorem pseudoL_len (p : Pos) : (pseudoL p).length ≤ 20480 := by
  unfold pseudoL; split
  · exact movesL_len _ _ _
  · exact Nat.zero_le _
theorem bits_in {b : BitVec 64} {x : Int} (h : x ∈ (show List Int from bitsOf b)) : 0 ≤ x ∧ x < 64 := by
  obtain ⟨i, h1, _, rfl⟩ := bitsOf_mem.1 h; omega
theorem each_mem {p : Pos} {m x : Mv} (h : x ∈ eachL p m) : ∃ k, 0 ≤ k ∧ k ≤ 255 ∧ (x = m ∨ x = setProm m k) := by
  unfold eachL at h; split at h
  · rw [List.mem_singleton] at h; exact ⟨0, by decide, by decide, .inl h⟩
  · obtain ⟨k, hk, rfl⟩ := List.mem_map.1 h
    obtain ⟨i, hi, rfl⟩ := List.mem_iff_getElem.1 hk
    have := prom_rng (vr p) i
    have e : (promP (vr p)).getD ((i : Nat) : Int).toNat (zero u8) = (show List Int from promP (vr p))[i] := by
      show List.getD (show List Int from promP (vr p)) i 0 = _
      rw [List.getD_eq_getElem?_getD, List.getElem?_eq_getElem hi]; rfl
    rw [e] at this
    exact ⟨_, this.1, this.2, .inr rfl⟩
theorem pseudoL_rng (p : Pos) (m : Mv) (h : m ∈ pseudoL p) : (0 ≤ mF m ∧ mF m < 64) ∧ (0 ≤ mT m ∧ mT m < 64) ∧ (0 ≤ mP m ∧ mP m ≤ 255) ∧ mD m = 0 ∧ mC m = false := by
  unfold pseudoL at h; split at h
  · obtain ⟨s, hs, h⟩ := List.mem_flatMap.1 h
    obtain ⟨t, ht, h⟩ := List.mem_flatMap.1 h
    have h1 := bits_in hs
    have h2 := bits_in ht
    obtain ⟨k, k0, k1, rfl | rfl⟩ := each_mem h
    · exact ⟨h1, h2, ⟨by show (0 : Int) ≤ 0; decide, by show (0 : Int) ≤ 255; decide⟩, rfl, rfl⟩
    · exact ⟨h1, h2, ⟨k0, k1⟩, rfl, rfl⟩
  · cases h
theorem eqm_iff (x y : Mv) : eqv moveT x y = true ↔ x = y := eqv_iff moveT rfl x y (wf_move x) (wf_move y)
theorem idx_mem {m : Mv} : ∀ (xs : List Mv) (k : Nat), 0 ≤ idxM (eqv moveT m) xs k ↔ m ∈ xs
  | [], k => by simp [idxM]
  | x :: r, k => by
    unfold idxM
    by_cases h : eqv moveT m x = true
    · rw [if_pos h]
      have := (eqm_iff m x).1 h
      simp [this]
      try omega
    · rw [if_neg h, idx_mem r (k + 1)]
      have : ¬ m = x := fun e => h ((eqm_iff m x).2 e)
      simp [this]
theorem has_iff {m : Mv} {xs : List Mv} : hasM m xs = true ↔ m ∈ xs := by
  unfold hasM; rw [decide_eq_true_eq]; exact idx_mem xs 0
theorem has_mem {m : Mv} {xs : List Mv} (h : hasM m xs = true) : m ∈ xs := has_iff.1 h
def takenP (p : Pos) (m : Mv) : Int :=
  if (!(ofS p).2 || !hasM m (pseudoL p)) = true then -1
  else if (!decide (ofB p (1 - tu p) 0 &&& shlB (mT m) = 0#64)) = true then mT m
  else if (decide (kind (pb p (mF m)) = 1) && !decide (mF m % 8 = mT m % 8)) = true then aheadP (1 - tu p) (mT m) else -1
theorem taken_no {p : Pos} {m : Mv} (h : (ofS p).2 = false) : takenP p m = -1 := by unfold takenP; rw [h, if_pos (by rfl)]
theorem taken_y {p : Pos} {m : Mv} (h : (ofS p).2 = true) : takenP p m = if (!hasM m (pseudoL p)) = true then -1
  else if (!decide (ofB p (1 - tu p) 0 &&& shlB (mT m) = 0#64)) = true then mT m
  else if (decide (kind (pb p (mF m)) = 1) && !decide (mF m % 8 = mT m % 8)) = true then aheadP (1 - tu p) (mT m) else -1 := by unfold takenP; rw [h]; rfl

theorem c_pseudo_List (p : Pos) (hp : POK p) (M : List Fact) (hT : TAB ∈ M) : Con Tryz.prog 101 [enc posT p] M (fun v M' => M' = .row v 55 moveT (pseudoL p) :: M) := by
 obtain ⟨hb, hpw, hvr, htu, hpg, hvr0, htu0⟩ := hp.head
 have hws := ofS_wf hp
 refine con_of_G (n := 22) Tryz.func101 rfl rfl yn ?_
 refine G_seq (G_regl (fun w0 => ?_))
 refine GO_l rfl (by decide : 1 < 22) (ol_box (t := posT) rfl rfl rfl yf (fun b1 => ?_))
 refine GO_op rfl rfl yd (OpX.v (ov_assign rfl rfl)) ?_
 refine GO_nil (G_seq (G_regl (fun w0 => ?_)))
 refine GO_op rfl rfl yd (OpX.v (ov_load rfl rfl ye trivial rfl rfl tok31)) ?_
 refine GO_op rfl rfl yd (yV rfl rfl rfl Tryz.call104 (by apply c_pseudo_of <;> exact yz)) ?_
 refine GO_op rfl rfl yd (OpX.v (ov_move rfl rfl)) ?_
 refine GO_op rfl rfl yd (OpX.v (ov_extract rfl rfl rfl)) ?_
 refine GO_op rfl rfl yd (OpX.v (ov_extract rfl rfl rfl)) ?_
 refine GO_l rfl (by decide : 3 < 22) (ol_alloc (t := sideT) rfl tok123 yf (fun b2 => ?_))
 refine GO_l rfl trivial (ol_sw0 rfl rfl rfl rfl yf tok123 ?_)
 refine GO_op rfl rfl yd (OpX.v (ov_assign rfl rfl)) ?_
 refine GO_nil (G_seq (G_seq (G_regl (fun w0 => ?_))))
 refine GO_op rfl rfl yd (OpX.v (ov_move rfl rfl)) ?_
 refine GO_op rfl rfl yd (OpX.v (ov_not rfl rfl)) ?_
 refine GO_nil (G_cond rfl (fun hc1 => ?_) (fun hc1 => ?_))
 ·
  try simp only [yS] at hc1
  refine G_seq (G_row 55 moveT ?_)
  refine G_regl (fun w0 => ?_)
  refine GO_op rfl rfl yd (OpX.v (ov_assign rfl rfl)) ?_
  refine GO_nil (G_ret ?_)
  refine ⟨trivial, .inl ⟨rfl, _, _, (ResV_tmp1 rfl rfl rfl), (by first | exact List.Sublist.cons_cons _ ((((List.Sublist.refl _).cons _).cons _).cons _) | exact List.Sublist.cons_cons _ (((List.Sublist.refl _).cons _).cons _)), ?_⟩⟩
  first | (rw [pseudoL_n hc1]) | (rw [List.take_length, pseudoL_y hc1])
 ·
  try simp only [yS] at hc1
  have hof : (ofS p).1 = (p, ofB p (tu p) 0, ofB p (1 - tu p) 0, ()) := of_side hc1
  have htt : tu p ≤ 1 := of_turn hc1
  refine G_skip ?_
  refine G_seq (G_regl (fun w0 => ?_))
  refine GO_l rfl (by decide : 5 < 22) (ol_alloc1 rfl Tryz.zeroValue48 rfl (fun b3 => ?_))
  refine GO_nil (G_seq (G_seq ?_))
  rw [hof]
  refine G_row 55 moveT ?_
  refine G_dup (f := TAB) ye rfl ?_
  refine G_regl (fun w0 => ?_)
  refine GO_op rfl rfl yd (OpX.v (ov_load rfl rfl ye trivial rfl rfl tok123)) ?_
  refine GO_l rfl (by decide : 15 < 22) (ol_call (v0 := []) (v2 := []) rfl rfl rfl Tryz.call158 (Con.mono (c_pseudo_side_moves p hp (ofB p (tu p) 0) (ofB p (1 - tu p) 0) _) (fun v M' h => ?_)))
  obtain ⟨bb, rfl, rfl⟩ := h
  refine GO_nil (G_block (G_range rfl Tryz.call193 (c_pseudo_side_moves_1 p hp (ofB p (tu p) 0) (ofB p (1 - tu p) 0) bb 123 htt) (by rintro k vals F ⟨x, _, rfl, _⟩; rfl) yd (fun k M' => ∃ v, M' = .row v 55 moveT ((movesL p (ofB p (tu p) 0) (ofB p (1 - tu p) 0)).take k) :: .one b3 48 v :: .box b2 123 sideT (p, ofB p (tu p) 0, ofB p (1 - tu p) 0, ()) :: .box b1 31 posT p :: M) (fun _ _ => False) (A := [.box bb 123 sideT (p, ofB p (tu p) 0, ofB p (1 - tu p) 0, ()), TAB]) (M0 := .row (.slice none 0 0) 55 moveT [] :: .one b3 48 (.slice none 0 0) :: .box b2 123 sideT (p, ofB p (tu p) 0, ofB p (1 - tu p) 0, ()) :: .box b1 31 posT p :: M) (List.Perm.refl _) (⟨_, rfl⟩) ?_ ?_ ?_))
  ·
   rintro l k vals F M1 hk ⟨x, hx, rfl, rfl⟩ ⟨v, rfl⟩
   have hl1 := @List.length_take_le' _ k (movesL p (ofB p (tu p) 0) (ofB p (1 - tu p) 0))
   have hl2 := movesL_len p (ofB p (tu p) 0) (ofB p (1 - tu p) 0)
   have hwx := wf_move x
   show G _ _ _ _ _ _ _ (.row v 55 moveT ((movesL p (ofB p (tu p) 0) (ofB p (1 - tu p) 0)).take k) :: .one b3 48 v :: .box b2 123 sideT (p, ofB p (tu p) 0, ofB p (1 - tu p) 0, ()) :: .box b1 31 posT p :: M)
   refine G_regl (fun w0 => ?_)
   refine GO_l rfl (by decide : 6 < 22) (ol_alloc (t := moveT) rfl tok55 yf (fun b4 => ?_))
   refine GO_l rfl trivial (ol_sw0 rfl rfl rfl rfl yf tok55 ?_)
   refine GO_nil ⟨rfl, ?_⟩
   refine G_block (G_regl (fun w0 => ?_))
   refine GO_op rfl rfl yd (OpX.v (ov_load1 rfl rfl ye Tryz.isAgg48)) ?_
   refine GO_op rfl rfl yd (OpX.v (ov_load rfl rfl ye trivial rfl rfl tok55)) ?_
   refine GO_l rfl (by decide : 19 < 22) (ol_buildSlice (t := moveT) (xs := [_]) rfl rfl rfl Tryz.underlying48 tok55 xaey yd yd yd (fun v1 => ?_))
   refine GO_l rfl (by decide : 20 < 22) (ol_ap2 (t := moveT) rfl rfl rfl xaby ap48 xafy xafy (fun v2 => ?_))
   refine GO_cell (v := v2) (t := moveT) xaby (fun hcell => ?_)
   refine GO_l rfl trivial (ol_on3 rfl rfl rfl (by first | rfl | assumption) Tryz.sizeOf48 ?_)
   refine GO_nil ?_
   exact ⟨_, List.Perm.refl _, _, (((List.Sublist.refl _).cons _).cons _), _, rfl, v2, congrArg (fun q => Fact.row v2 55 moveT q :: .one b3 48 v2 :: .box b2 123 sideT (p, ofB p (tu p) 0, ofB p (1 - tu p) 0, ()) :: .box b1 31 posT p :: M) (take_snoc hx)⟩
  ·
   rintro D M1 ⟨v, rfl⟩
   refine G_seq (G_regl (fun w0 => ?_))
   refine GO_op rfl rfl yd (OpX.v (ov_load1 rfl rfl ye Tryz.isAgg48)) ?_
   refine GO_op rfl rfl yd (OpX.v (ov_assign rfl rfl)) ?_
   refine GO_nil (G_ret ?_)
   refine ⟨trivial, .inr ⟨_, _, rfl, rfl, _, _, (ResV_tmp1 rfl rfl rfl), (by first | exact List.Sublist.cons_cons _ ((((List.Sublist.refl _).cons _).cons _).cons _) | exact List.Sublist.cons_cons _ (((List.Sublist.refl _).cons _).cons _)), ?_⟩⟩
   first | (rw [pseudoL_n hc1]) | (rw [List.take_length, pseudoL_y hc1])
  ·
   rintro _ _ _ _ h; exact h.elim

theorem c_pseudo_Taken (p : Pos) (hp : POK p) (m : Mv) (hm : MOK m) (M : List Fact) (hT : TAB ∈ M) : Pure Tryz.prog 47 [enc posT p, enc moveT m] M (.int .i64 (takenP p m)) := by
 obtain ⟨hb, hpw, hvr, htu, hpg, hvr0, htu0⟩ := hp.head
 have hmF := hm.f
 have hmT := hm.t
 have hmP := hm.p
 have hmD := hm.d
 have hmF0 := hm.f
 have hmT0 := hm.t
 have hmP0 := hm.p
 have hmD0 := hm.d
 simp only [mF] at hmF0
 simp only [mT] at hmT0
 simp only [mP] at hmP0
 simp only [mD] at hmD0
 have hmw := wf_move m
 have hws := ofS_wf hp
 refine pure_of_W (n := 59) Tryz.func47 rfl rfl yn ?_
 refine w2 (fun w0 => ?_)
 refine LO_l rfl (by decide : 2 < 59) (ol_box (t := posT) rfl rfl rfl yf (fun b1 => ?_))
 refine LO_l rfl (by decide : 3 < 59) (ol_box (t := moveT) rfl rfl rfl yf (fun b2 => ?_))
 refine zA ?_
 refine LO_nil (w2 (fun w0 => ?_))
 refine yL (ov_load rfl rfl ye trivial rfl rfl tok31) ?_
 refine yQ (yV rfl rfl rfl Tryz.call104 (by apply c_pseudo_of <;> exact yz)) ?_
 refine zM ?_
 refine yL (ov_extract rfl rfl rfl) ?_
 refine yL (ov_extract rfl rfl rfl) ?_
 refine LO_l rfl (by decide : 5 < 59) (ol_alloc (t := sideT) rfl tok123 yf (fun b3 => ?_))
 refine LO_l rfl trivial (ol_sw0 rfl rfl rfl rfl yf tok123 ?_)
 refine zA ?_
 refine LO_nil (W_seq (W_seq ?_))
 rcases Bool.eq_false_or_eq_true ((ofS p).2) with hsp | hsp
 ·
  rw [hsp]
  have hof : (ofS p).1 = (p, ofB p (tu p) 0, ofB p (1 - tu p) 0, ()) := of_side hsp
  have htt : tu p ≤ 1 := of_turn hsp
  have ht2 := htt
  simp only [tu] at ht2
  have hl2 := pseudoL_len p
  rw [hof]
  refine W_regD (fun i => true) mixed (fun w0 => ?_)
  refine D_oneV (i := 0) rfl yk rfl rfl yd xagy (OpX.v (ov_move rfl rfl)) ?_
  refine D_oneV (i := 1) rfl yk rfl rfl yd xagy (OpX.v (ov_not rfl rfl)) ?_
  refine D_oneV (i := 2) rfl yk rfl rfl yd xagy (OpX.v (ov_move rfl rfl)) ?_
  refine D_mem (g := true) (i := 3) rfl yk yk rfl yd (.is1 (b := false) (want := false) rfl rfl rfl rfl) (fun _ => ov_load rfl rfl ye trivial rfl rfl tok31) ?_
  refine D_mem (g := true) (i := 5) rfl yk yk rfl yd (.is1 (b := false) (want := false) rfl rfl rfl rfl) (fun _ => ov_load rfl rfl ye trivial rfl rfl tok55) ?_
  refine D_oneG (i := 4) rfl yk (.is1 (b := false) (want := false) rfl rfl rfl rfl) (by decide : 17 < 59) (ol_call (v0 := []) (v2 := []) rfl rfl rfl Tryz.call101 (Con.mono (by apply c_pseudo_List <;> exact yz) ?_))
  rintro vP _ rfl
  refine ⟨xagy, ?_⟩
  refine D_oneVG (i := 6) rfl yk (.is1 (b := false) (want := false) rfl rfl rfl rfl) rfl yd xagy (yV rfl rfl rfl Tryz.call45 (c_slices_Contains vP (pseudoL p) m _ (hl_row (.head _)) yo)) ?_
  refine D_oneVG (i := 7) rfl yk (.is1 (b := false) (want := false) rfl rfl rfl rfl) rfl yd xagy (OpX.v (ov_not rfl rfl)) ?_
  refine D_oneV (i := 8) rfl yk rfl rfl yd xagy (OpX.v (ov_pick rfl rfl rfl rfl rfl)) ?_
  refine D_end yk ?_
  refine W_cond rfl (fun hc1 => ?_) (fun hc1 => ?_)
  ·
   refine w1 ((yA_ ?_))
   refine RO_nil (W_ret ⟨trivial, yc, (ResV_tmp1 rfl rfl ?_)⟩)
   exact xbdy
  ·
   have hmr := pseudoL_rng p m (has_mem (by simpa using hc1))
   simp only [mF] at hmr
   simp only [mT] at hmr
   refine W_skip (w1 ((yR (ov_fieldAddr rfl rfl fa55_1 rfl) ?_)))
   refine yR (ov_load rfl rfl ye ⟨trivial, yn⟩ rfl rfl tok26) ?_
   refine yR (ov_conv64 rfl rfl Tryz.underlying26 Tryz.underlying111) ?_
   refine yR (ov_shl64 (a := 1#64) rfl rfl rfl ya) ?_
   refine yA_ ?_
   refine RO_nil (W_seq (W_block (w1 ((yR (ov_fieldAddr rfl rfl fa123_2 rfl) ?_)))))
   refine yR (ov_load rfl rfl ye ⟨trivial, yn⟩ rfl rfl tok23) ?_
   refine yM ?_
   refine yR (ov_bits rfl rfl rfl (.inl ⟨rfl, rfl⟩)) ?_
   refine yR (ov_neq64 (b := 0#64) rfl rfl rfl) ?_
   refine yA_ ?_
   refine RO_nil (W_cond rfl (fun hc2 => ?_) (fun hc2 => ?_))
   ·
    refine w1 ((yR (ov_fieldAddr rfl rfl fa55_1 rfl) ?_))
    refine yR (ov_load rfl rfl ye ⟨trivial, yn⟩ rfl rfl tok26) ?_
    refine yR (ov_convn rfl rfl Tryz.underlying26 Tryz.underlying3 ya) ?_
    refine yA_ ?_
    refine RO_nil (W_ret ⟨trivial, yc, (ResV_tmp1 rfl rfl ?_)⟩)
    exact xbdy
   ·
    refine w1 ((yR (ov_fieldAddr rfl rfl fa55_0 rfl) ?_))
    refine yR (ov_load rfl rfl ye ⟨trivial, yn⟩ rfl rfl tok26) ?_
    refine yR (ov_fieldAddr rfl rfl fa31_1 rfl) ?_
    refine yR (ov_indexAddr rfl rfl rfl Tryz.underlying22 rfl Tryz.sizeOf5 ya ya) ?_
    refine yR (ov_load rfl rfl ye ⟨⟨trivial, yn⟩, (tn ya ya)⟩ rfl rfl tok5) ?_
    refine yP (yV rfl rfl rfl Tryz.call105 (by apply c_pieces_Kind <;> exact yz)) ?_
    refine yR (ov_eql rfl rfl rfl) ?_
    refine yM ?_
    refine yG (fun hg => OpX.v (ov_fieldAddr rfl rfl fa55_0 rfl)) ?_
    refine yG (fun hg => OpX.v (ov_load rfl (look_gv rfl (bq hg)) ye ⟨trivial, yn⟩ rfl rfl tok26)) ?_
    refine yG (fun hg => OpX.v (ov_rem_pos rfl (look_gv rfl (bq hg)) rfl ya ya)) ?_
    refine yG (fun hg => OpX.v (ov_fieldAddr rfl rfl fa55_1 rfl)) ?_
    refine yG (fun hg => OpX.v (ov_load rfl (look_gv rfl (bq hg)) ye ⟨trivial, yn⟩ rfl rfl tok26)) ?_
    refine yG (fun hg => OpX.v (ov_rem_pos rfl (look_gv rfl (bq hg)) rfl ya ya)) ?_
    refine yG (fun hg => OpX.v (ov_neq rfl (look_gv rfl (bq hg)) (look_gv rfl (bq hg)))) ?_
    refine yR (ov_and rfl rfl rfl rfl (fun h => bq h)) ?_
    refine yA_ ?_
    refine RO_nil (W_cond rfl (fun hc3 => ?_) (fun hc3 => ?_))
    ·
     refine w1 ((yR (ov_fieldAddr rfl rfl fa31_4 rfl) ?_))
     refine yR (ov_load rfl rfl ye ⟨trivial, yn⟩ rfl rfl tok5) ?_
     refine yR (ov_sub rfl rfl rfl ya) ?_
     refine yR (ov_fieldAddr rfl rfl fa55_1 rfl) ?_
     refine yR (ov_load rfl rfl ye ⟨trivial, yn⟩ rfl rfl tok26) ?_
     refine yR (ov_convn rfl rfl Tryz.underlying26 Tryz.underlying3 ya) ?_
     refine yP (yV rfl rfl rfl Tryz.call106 (by apply c_pseudo_ahead <;> exact yz)) ?_
     refine yA_ ?_
     refine RO_nil (W_ret ⟨trivial, yc, (ResV_tmp1 rfl rfl ?_)⟩)
     exact xbdy
    ·
     refine W_skip (w1 ((yA_ ?_)))
     refine RO_nil (W_ret ⟨trivial, yc, (ResV_tmp1 rfl rfl ?_)⟩)
     exact xbdy
 ·
  rw [hsp]
  refine W_regD (fun i => true) mixed (fun w0 => ?_)
  refine D_oneV (i := 0) rfl yk rfl rfl yd xagy (OpX.v (ov_move rfl rfl)) ?_
  refine D_oneV (i := 1) rfl yk rfl rfl yd xagy (OpX.v (ov_not rfl rfl)) ?_
  refine D_oneV (i := 2) rfl yk rfl rfl yd xagy (OpX.v (ov_move rfl rfl)) ?_
  refine D_pure (g := false) (v := undef) (i := 3) rfl yk rfl yd (.is1 (b := true) (want := false) rfl rfl rfl rfl) (fun h => by cases h) ?_
  refine D_pure (g := false) (v := undef) (i := 4) rfl yk rfl yd (.is1 (b := true) (want := false) rfl rfl rfl rfl) (fun h => by cases h) ?_
  refine D_pure (g := false) (v := undef) (i := 5) rfl yk rfl yd (.is1 (b := true) (want := false) rfl rfl rfl rfl) (fun h => by cases h) ?_
  refine D_pure (g := false) (v := undef) (i := 6) rfl yk rfl yd (.is1 (b := true) (want := false) rfl rfl rfl rfl) (fun h => by cases h) ?_
  refine D_pure (g := false) (v := undef) (i := 7) rfl yk rfl yd (.is1 (b := true) (want := false) rfl rfl rfl rfl) (fun h => by cases h) ?_
  refine D_oneV (i := 8) rfl yk rfl rfl yd xagy (OpX.v (ov_pick rfl rfl rfl rfl rfl)) ?_
  refine D_end yk ?_
  refine W_condt rfl ?_
  refine w1 ((yA_ ?_))
  refine RO_nil (W_ret ⟨trivial, yc, (ResV_tmp1 rfl rfl ?_)⟩)
  exact xbdy

theorem c_pseudo_Takes (p : Pos) (hp : POK p) (m : Mv) (hm : MOK m) (M : List Fact) (hT : TAB ∈ M) : Pure Tryz.prog 82 [enc posT p, enc moveT m] M (.bool (decide (0 ≤ takenP p m))) := by
 obtain ⟨hb, hpw, hvr, htu, hpg, hvr0, htu0⟩ := hp.head
 have hmF := hm.f
 have hmT := hm.t
 have hmP := hm.p
 have hmD := hm.d
 have hmF0 := hm.f
 have hmT0 := hm.t
 have hmP0 := hm.p
 have hmD0 := hm.d
 simp only [mF] at hmF0
 simp only [mT] at hmT0
 simp only [mP] at hmP0
 simp only [mD] at hmD0
 have hmw := wf_move m
 refine pure_of_W (n := 9) Tryz.func82 rfl rfl yn ?_
 refine w2 (fun w0 => ?_)
 refine LO_l rfl (by decide : 2 < 9) (ol_box (t := posT) rfl rfl rfl yf (fun b1 => ?_))
 refine LO_l rfl (by decide : 3 < 9) (ol_box (t := moveT) rfl rfl rfl yf (fun b2 => ?_))
 refine zA ?_
 refine LO_nil (w1 ((yR (ov_load rfl rfl ye trivial rfl rfl tok31) ?_)))
 refine yR (ov_load rfl rfl ye trivial rfl rfl tok55) ?_
 refine yP (yV rfl rfl rfl Tryz.call47 (by apply c_pseudo_Taken <;> exact yz)) ?_
 refine yR (ov_geq rfl rfl rfl) ?_
 refine yA_ ?_
 refine RO_nil (W_ret ⟨trivial, yc, (ResV_tmp1 rfl rfl ?_)⟩)
 rfl
end Go.Kw
set_option linter.unusedVariables false
namespace Go.Kw
open Go.Proofs
theorem fa31_2 : FA Tryz.prog 31 2 65 := fun a w => by simp [Instr.fieldAt, Tryz.runUnderlying31, Instr.sureAddr, fieldPlace, Tryz.sizeOf23]
theorem fa55_3 : FA Tryz.prog 55 3 3 := fun a w => by simp [Instr.fieldAt, Tryz.runUnderlying55, Instr.sureAddr, fieldPlace, Tryz.sizeOf5]
theorem fa73_0 : FA Tryz.prog 73 0 0 := fun a w => by simp [Instr.fieldAt, Tryz.runUnderlying73, Instr.sureAddr, fieldPlace, Tryz.sizeOf31]
theorem fa73_1 : FA Tryz.prog 73 1 88 := fun a w => by simp [Instr.fieldAt, Tryz.runUnderlying73, Instr.sureAddr, fieldPlace, Tryz.sizeOf31]
theorem fa73_2 : FA Tryz.prog 73 2 176 := fun a w => by simp [Instr.fieldAt, Tryz.runUnderlying73, Instr.sureAddr, fieldPlace, Tryz.sizeOf55]
theorem fa73_3 : FA Tryz.prog 73 3 181 := fun a w => by simp [Instr.fieldAt, Tryz.runUnderlying73, Instr.sureAddr, fieldPlace, Tryz.sizeOf3]

def nearB2 (p : Pos) (s : Int) : Nat → BitVec 64
  | 0 => kingB s &&& allB p
  | n + 1 => nearB2 p s n &&& ~~~ofB p (n : Int) 1
def blownB (p : Pos) (s : Int) : BitVec 64 := if (decide (s < 0) || decide (64 ≤ s)) = true then 0#64 else nearB2 p s 2 ||| shlB s
def kindOf (was : Pos) (m : Mv) : Int := if (!decide (mD m = 0)) = true then mD m else kind (pb was (mF m))
def men1 (q : Pos) (tk : Int) : Pos := if decide (0 ≤ tk) = true then putB q tk 0 else q
def men2 (q was : Pos) (m : Mv) : Pos := putB (putB q (mF m) 0) (mT m) (pb was (mF m))
def men3 (q : Pos) (m : Mv) : Pos := if (!decide (mP m = 0)) = true then putB q (mT m) (makeP (tu q) (mP m)) else q
def menQ (q was : Pos) (m : Mv) (tk : Int) : Pos :=
  if mC m = true then putB (putB (putB (putB q (mF m) 0) (mT m) 0) (goalsP was m).1 (pb was (mF m))) (goalsP was m).2.1 (pb was (mT m))
  else if (!decide (mD m = 0)) = true then putB (takeP q (tu q) (mD m)).1 (mT m) (makeP (tu (takeP q (tu q) (mD m)).1) (mD m))
  else men3 (men2 (men1 q tk) was m) m
theorem goalsP_rng (was : Pos) (m : Mv) (hw : POK was) (ht : tu was ≤ 1) : (0 ≤ (goalsP was m).1 ∧ (goalsP was m).1 < 64) ∧ (0 ≤ (goalsP was m).2.1 ∧ (goalsP was m).2.1 < 64) := by
  have h1 := sideP_rng was m
  have h2 := hw.tu
  unfold goalsP
  split
  · exact ⟨⟨by decide, by decide⟩, by decide, by decide⟩
  · have g0 := goal_rng (sideP was m) 0 yo h1.2
    have g1 := goal_rng (sideP was m) 1 yo h1.2
    exact ⟨⟨by show 0 ≤ 56 * tu was + goalP (sideP was m) 0; omega, by show 56 * tu was + goalP (sideP was m) 0 < 64; omega⟩, by show 0 ≤ 56 * tu was + goalP (sideP was m) 1; omega, by show 56 * tu was + goalP (sideP was m) 1 < 64; omega⟩
theorem POK_take {p : Pos} (hp : POK p) (c kd : Int) : POK (takeP p c kd).1 := by
  have h := pkAt_rng hp c kd
  unfold takeP
  split
  · exact hp
  · rename_i hn
    have : ¬ pkAt p c kd = 0 := fun e => hn (by rw [e]; simp)
    exact POK_setPk hp c kd yo yo
theorem tu_take (p : Pos) (c kd : Int) : tu (takeP p c kd).1 = tu p := by
  unfold takeP; split <;> rfl
theorem POK_add {p : Pos} (hp : POK p) (c kd : Int) : POK (addP p c kd) := by
  have h := pkAt_rng hp c kd
  unfold addP
  split
  · rename_i hn
    have := of_decide_eq_true (Bool.and_eq_true_iff.1 hn).2
    exact POK_setPk hp c kd yo yo
  · exact hp

theorem c_after_Blown (p : Pos) (hp : POK p) (s : Int) (M : List Fact) : Pure Tryz.prog 113 [enc posT p, .int .i64 s] M (u64v (blownB p s)) := by
 obtain ⟨hb, hpw, hvr, htu, hpg, hvr0, htu0⟩ := hp.head
 refine pure_of_W (n := 32) Tryz.func113 rfl rfl yn ?_
 refine w2 (fun w0 => ?_)
 refine LO_l rfl (by decide : 2 < 32) (ol_box (t := posT) rfl rfl rfl yf (fun b1 => ?_))
 refine yL (ov_assign (v := u64v 0#64) rfl rfl) ?_
 refine LO_nil (W_seq (w1 ((yM ?_))))
 refine yR (ov_lss rfl rfl rfl) ?_
 refine yM ?_
 refine gM ?_
 refine yG (fun hg => OpX.v (ov_geq rfl (look_gv rfl (bq hg)) rfl)) ?_
 refine yR (ov_or rfl rfl rfl rfl (fun h => bq h)) ?_
 refine RO_nil (W_cond rfl (fun hc1 => ?_) (fun hc1 => ?_))
 ·
  refine w1 ((yR (ov_assign (v := u64v 0#64) rfl rfl) ?_))
  refine RO_nil (W_ret ⟨trivial, yb, (ResV_tmp1 rfl rfl ?_)⟩)
  first | exact val_u64 (show blownB p s = _ from if_pos hc1).symm | exact val_u64 ((by rw [show i = 2 by omega]; rfl : _ = _).trans (show blownB p s = _ from if_neg (Bool.eq_false_iff.1 hc1)).symm)
 ·
  refine W_skip (W_seq (W_regd mixed yk ?_))
  refine yM ?_
  refine yP (yV rfl rfl rfl Tryz.call139 (by apply c_rays_King <;> exact yz)) ?_
  refine yR (ov_load rfl rfl ye trivial rfl rfl tok31) ?_
  refine yP (yV rfl rfl rfl Tryz.call162 (by apply c_board_All <;> exact yz)) ?_
  refine yR (ov_bits rfl rfl rfl (.inl ⟨rfl, rfl⟩)) ?_
  refine yA_ ?_
  refine RO_nil (W_seq (w1 ((yA_ ?_))))
  refine RO_nil (W_block (W_loop (σ := Nat) (fun s5 => s5 ≤ 2) (fun s5 => [(1, .int .i64 s), (2, ptrv b1 posT []), (6, .int .u8 (s5 : Int)), (5, u64v (nearB2 p s s5))]) (fun s5 => .box b1 31 posT _ :: M) (fun s5 => 2 - s5) (0) (by simp) ⟨rfl, rfl, rfl, rfl, trivial⟩ yb ?_))
  rintro i hI
  refine W_seq (w1 ((yM ?_)))
  refine yR (ov_leq rfl rfl rfl) ?_
  refine RO_nil (W_cond rfl (fun hc2 => ?_) (fun hc2 => ?_))
  ·
   try simp only [yS] at hc2
   refine W_skip (W_seq (W_block (W_reg (yM ?_))))
   refine yR (ov_load rfl rfl ye trivial rfl rfl tok31) ?_
   refine yM ?_
   refine yP (yV rfl rfl rfl Tryz.call117 xavy) ?_
   refine yR (ov_bits rfl rfl rfl (.inr (.inr (.inr ⟨rfl, rfl⟩)))) ?_
   refine yA_ ?_
   refine RO_nil (W_reg (yM ?_))
   refine yR (ov_add rfl rfl rfl ya) ?_
   refine yA_ ?_
   refine RO_nil ?_
   exact ⟨i + 1, yo, yo, ⟨rfl, rfl, rfl, rfl, trivial⟩, yb⟩
  ·
   try simp only [yS] at hc2
   refine W_exit (w1 ((yM ?_)))
   refine yM ?_
   refine yR (ov_conv64 rfl rfl Tryz.underlying3 Tryz.underlying111) ?_
   refine yR (ov_shl64 (a := 1#64) rfl rfl rfl ya) ?_
   refine yR (ov_bits rfl rfl rfl (.inr (.inl ⟨rfl, rfl⟩))) ?_
   refine yA_ ?_
   refine RO_nil (W_ret ⟨trivial, yb, (ResV_tmp1 rfl rfl ?_)⟩)
   first | exact val_u64 (show blownB p s = _ from if_pos hc1).symm | exact val_u64 ((by rw [show i = 2 by omega]; rfl : _ = _).trans (show blownB p s = _ from if_neg (Bool.eq_false_iff.1 hc1)).symm)

theorem c_after_mover_kind (q was : Pos) (m : Mv) (tk : Int) (bm t1 : Nat) (M : List Fact) (hw : POK was) (hm : MOK m) (hF : 0 ≤ mF m ∧ mF m < 64) (m1 : Fact.box bm t1 moverT (q, was, m, tk, ()) ∈ M) : Pure Tryz.prog 114 [ptrv bm moverT []] M (.int .u8 (kindOf was m)) := by
 have hb := hw.board
 have hF0 := hF
 simp only [mF] at hF0
 have hmd0 := hm.d
 simp only [mD] at hmd0
 refine pure_of_W (n := 26) Tryz.func114 rfl rfl yn ?_
 refine w1 ((yA_ ?_))
 refine RO_nil (W_seq (w1 ((yM ?_))))
 refine yR (ov_nilptr rfl rfl) ?_
 refine yR (ov_fieldAddr rfl rfl fa73_2 rfl) ?_
 refine yR (ov_fieldAddr rfl rfl fa55_3 rfl) ?_
 refine yR (ov_load rfl rfl ye ⟨⟨trivial, yn⟩, yn⟩ rfl rfl tok5) ?_
 refine yR (ov_neq rfl rfl rfl) ?_
 refine RO_nil (W_cond rfl (fun hc1 => ?_) (fun hc1 => ?_))
 ·
  refine w1 ((yM ?_))
  refine yR (ov_nilptr rfl rfl) ?_
  refine yR (ov_fieldAddr rfl rfl fa73_2 rfl) ?_
  refine yR (ov_fieldAddr rfl rfl fa55_3 rfl) ?_
  refine yR (ov_load rfl rfl ye ⟨⟨trivial, yn⟩, yn⟩ rfl rfl tok5) ?_
  refine yA_ ?_
  refine RO_nil (W_ret ⟨trivial, yb, (ResV_tmp1 rfl rfl ?_)⟩)
  first | exact val_u8 (show kindOf was m = _ from if_pos hc1).symm | exact val_u8 (show kindOf was m = _ from if_neg (Bool.eq_false_iff.1 hc1)).symm
 ·
  refine W_skip (W_seq (W_regd mixed yk ?_))
  refine yM ?_
  refine yM ?_
  refine yR (ov_nilptr rfl rfl) ?_
  refine yR (ov_fieldAddr rfl rfl fa73_2 rfl) ?_
  refine yR (ov_fieldAddr rfl rfl fa55_0 rfl) ?_
  refine yR (ov_load rfl rfl ye ⟨⟨trivial, yn⟩, yn⟩ rfl rfl tok26) ?_
  refine yR (ov_nilptr rfl rfl) ?_
  refine yR (ov_fieldAddr rfl rfl fa73_1 rfl) ?_
  refine yR (ov_fieldAddr rfl rfl fa31_1 rfl) ?_
  refine yR (ov_indexAddr rfl rfl rfl Tryz.underlying22 rfl Tryz.sizeOf5 ya ya) ?_
  refine yR (ov_load rfl rfl ye ⟨⟨⟨trivial, yn⟩, yn⟩, (tn ya ya)⟩ rfl rfl tok5) ?_
  refine yP (yV rfl rfl rfl Tryz.call105 (by apply c_pieces_Kind <;> exact yz)) ?_
  refine yA_ ?_
  refine RO_nil (W_ret ⟨trivial, yb, (ResV_tmp1 rfl rfl ?_)⟩)
  first | exact val_u8 (show kindOf was m = _ from if_pos hc1).symm | exact val_u8 (show kindOf was m = _ from if_neg (Bool.eq_false_iff.1 hc1)).symm

theorem c_after_mover_men (q was : Pos) (m : Mv) (tk : Int) (bm : Nat) (M : List Fact) (hq : POK q) (hw : POK was) (hm : MOK m) (ht : tu q ≤ 1) (hF : 0 ≤ mF m ∧ mF m < 64) (hT : 0 ≤ mT m ∧ mT m < 64) (htk : -1 ≤ tk ∧ tk < 64) (hwt : tu was ≤ 1) : Con Tryz.prog 48 [ptrv bm moverT []] (.box bm 73 moverT (q, was, m, tk, ()) :: M) (fun v M' => M' = .box bm 73 moverT (menQ q was m tk, was, m, tk, ()) :: M) := by
 have hb := hq.board
 have hpw := hq.wf
 have htu := hq.tu
 have hbw := hw.board
 have hww := hw.wf
 have hvq := hq.vr
 have htu0 := hq.tu
 simp only [tu] at htu0
 have ht2 := ht
 simp only [tu] at ht2
 have hmd := hm.d
 have hmp := hm.p
 have hmd0 := hm.d
 simp only [mD] at hmd0
 have hmp0 := hm.p
 simp only [mP] at hmp0
 have hF0 := hF
 simp only [mF] at hF0
 have hT0 := hT
 simp only [mT] at hT0
 have hmw := wf_move m
 have hmvw : wf moverT (q, was, m, tk, ()) := ⟨hpw, hww, hmw, trivial, trivial⟩
 have hgr := goalsP_rng was m hw hwt
 have htp := POK_take hq (tu q) (mD m)
 have htpw := htp.wf
 have htt := tu_take q (tu q) (mD m)
 simp only [tu] at htt
 refine con_of_W (n := 156) Tryz.func48 rfl rfl yn ?_
 refine w2 (fun w0 => ?_)
 refine zM ?_
 refine yL (ov_nilptr rfl rfl) ?_
 refine yL (ov_fieldAddr rfl rfl fa73_2 rfl) ?_
 refine yL (ov_load rfl rfl ye ⟨trivial, yn⟩ rfl rfl tok55) ?_
 refine LO_l rfl (by decide : 2 < 156) (ol_alloc (t := moveT) rfl tok55 yf (fun b1 => ?_))
 refine LO_l rfl trivial (ol_sw0 rfl rfl rfl rfl yf tok55 ?_)
 refine LO_nil (W_block (w1 ((yR (ov_fieldAddr rfl rfl fa55_4 rfl) ?_))))
 refine yR (ov_load rfl rfl ye ⟨trivial, yn⟩ rfl rfl tok4) ?_
 refine yA_ ?_
 refine RO_nil (W_cond rfl (fun hc1 => ?_) (fun hc1 => ?_))
 ·
  refine W_seq (W_regd mixed yk ?_)
  refine yM ?_
  refine yR (ov_nilptr rfl rfl) ?_
  refine yR (ov_fieldAddr rfl rfl fa73_1 rfl) ?_
  refine yR (ov_load rfl rfl ye ⟨trivial, yn⟩ rfl rfl tok31) ?_
  refine yR (ov_load rfl rfl ye trivial rfl rfl tok55) ?_
  refine yP (yV rfl rfl rfl Tryz.call107 (c_castle_Goals was hw m hm _)) ?_
  refine yM ?_
  refine yR (ov_extract rfl rfl rfl) ?_
  refine yR (ov_extract rfl rfl rfl) ?_
  refine yR (ov_extract rfl rfl rfl) ?_
  refine yA_ ?_
  refine yA_ ?_
  refine yA_ ?_
  refine RO_nil (W_seq (W_regDB (fun _ => true) (B := [.box b1 55 moveT m]) mixed yb (fun w0 => ?_)))
  refine D_mem0 (i := 0) rfl yk yk rfl rfl yd (ov_move rfl rfl) ?_
  refine D_mem0 (i := 1) rfl yk yk rfl rfl yd (ov_fieldAddr rfl rfl fa55_0 rfl) ?_
  refine D_mem0 (i := 2) rfl yk yk rfl rfl yd (ov_load rfl rfl ye ⟨trivial, yn⟩ rfl rfl tok26) ?_
  refine D_mem0 (i := 3) rfl yk yk rfl rfl yd (ov_move rfl rfl) ?_
  refine D_mem0 (i := 4) rfl yk yk rfl rfl yd (ov_fieldAddr rfl rfl fa55_1 rfl) ?_
  refine D_mem0 (i := 5) rfl yk yk rfl rfl yd (ov_load rfl rfl ye ⟨trivial, yn⟩ rfl rfl tok26) ?_
  refine D_mem0 (i := 6) rfl yk yk rfl rfl yd (ov_nilptr rfl rfl) ?_
  refine D_mem0 (i := 7) rfl yk yk rfl rfl yd (ov_fieldAddr rfl rfl fa73_0 rfl) ?_
  refine D_mem0 (i := 8) rfl yk yk rfl rfl yd (ov_fieldAddr rfl rfl fa31_1 rfl) ?_
  refine D_mem0 (i := 9) rfl yk yk rfl rfl yd (ov_indexAddr rfl rfl rfl Tryz.underlying22 rfl Tryz.sizeOf5 ya ya) ?_
  refine D_mem0 (i := 11) rfl yk yk rfl rfl yd (ov_nilptr rfl rfl) ?_
  refine D_mem0 (i := 12) rfl yk yk rfl rfl yd (ov_fieldAddr rfl rfl fa73_0 rfl) ?_
  refine D_mem0 (i := 13) rfl yk yk rfl rfl yd (ov_fieldAddr rfl rfl fa31_1 rfl) ?_
  refine D_one (i := 10) rfl yk rfl trivial (ol_st1 rfl rfl rfl ⟨⟨⟨trivial, yn⟩, yn⟩, (tn ya ya)⟩ rfl yf tok5 ⟨xaay, ?_⟩)
  refine D_oneV (i := 14) rfl yk rfl rfl yd xaay (OpX.v (ov_indexAddr rfl rfl rfl Tryz.underlying22 rfl Tryz.sizeOf5 ya ya)) ?_
  refine D_one (i := 15) rfl yk rfl trivial (ol_st1 rfl rfl rfl ⟨⟨⟨trivial, yn⟩, yn⟩, (tn ya ya)⟩ rfl yf tok5 ⟨xaay, ?_⟩)
  refine D_end yk ?_
  refine W_regD (fun i => !Nat.beq i 24 && !Nat.beq i 29) mixed (fun w0 => ?_)
  refine D_mem0 (i := 0) rfl yk yk rfl rfl yd (ov_move rfl rfl) ?_
  refine D_mem0 (i := 1) rfl yk yk rfl rfl yd (ov_move rfl rfl) ?_
  refine D_pure0 (i := 2) rfl yk rfl rfl yd (ov_move rfl rfl) ?_
  refine D_pure0 (i := 3) rfl yk rfl rfl yd (ov_move rfl rfl) ?_
  refine D_mem0 (i := 4) rfl yk yk rfl rfl yd (ov_move rfl rfl) ?_
  refine D_mem0 (i := 5) rfl yk yk rfl rfl yd (ov_fieldAddr rfl rfl fa55_0 rfl) ?_
  refine D_mem0 (i := 6) rfl yk yk rfl rfl yd (ov_load rfl rfl ye ⟨trivial, yn⟩ rfl rfl tok26) ?_
  refine D_mem0 (i := 7) rfl yk yk rfl rfl yd (ov_nilptr rfl rfl) ?_
  refine D_mem0 (i := 8) rfl yk yk rfl rfl yd (ov_fieldAddr rfl rfl fa73_1 rfl) ?_
  refine D_mem0 (i := 9) rfl yk yk rfl rfl yd (ov_fieldAddr rfl rfl fa31_1 rfl) ?_
  refine D_mem0 (i := 10) rfl yk yk rfl rfl yd (ov_indexAddr rfl rfl rfl Tryz.underlying22 rfl Tryz.sizeOf5 ya ya) ?_
  refine D_mem0 (i := 11) rfl yk yk rfl rfl yd (ov_load rfl rfl ye ⟨⟨⟨trivial, yn⟩, yn⟩, (tn ya ya)⟩ rfl rfl tok5) ?_
  refine D_mem0 (i := 12) rfl yk yk rfl rfl yd (ov_move rfl rfl) ?_
  refine D_mem0 (i := 13) rfl yk yk rfl rfl yd (ov_fieldAddr rfl rfl fa55_1 rfl) ?_
  refine D_mem0 (i := 14) rfl yk yk rfl rfl yd (ov_load rfl rfl ye ⟨trivial, yn⟩ rfl rfl tok26) ?_
  refine D_mem0 (i := 15) rfl yk yk rfl rfl yd (ov_nilptr rfl rfl) ?_
  refine D_mem0 (i := 16) rfl yk yk rfl rfl yd (ov_fieldAddr rfl rfl fa73_1 rfl) ?_
  refine D_mem0 (i := 17) rfl yk yk rfl rfl yd (ov_fieldAddr rfl rfl fa31_1 rfl) ?_
  refine D_mem0 (i := 18) rfl yk yk rfl rfl yd (ov_indexAddr rfl rfl rfl Tryz.underlying22 rfl Tryz.sizeOf5 ya ya) ?_
  refine D_mem0 (i := 19) rfl yk yk rfl rfl yd (ov_load rfl rfl ye ⟨⟨⟨trivial, yn⟩, yn⟩, (tn ya ya)⟩ rfl rfl tok5) ?_
  refine D_mem0 (i := 20) rfl yk yk rfl rfl yd (ov_nilptr rfl rfl) ?_
  refine D_mem0 (i := 21) rfl yk yk rfl rfl yd (ov_fieldAddr rfl rfl fa73_0 rfl) ?_
  refine D_mem0 (i := 22) rfl yk yk rfl rfl yd (ov_fieldAddr rfl rfl fa31_1 rfl) ?_
  refine D_mem0 (i := 23) rfl yk yk rfl rfl yd (ov_indexAddr rfl rfl rfl Tryz.underlying22 rfl Tryz.sizeOf5 ya ya) ?_
  refine D_pure0 (i := 25) rfl yk rfl rfl yd (ov_nilptr rfl rfl) ?_
  refine D_pure0 (i := 26) rfl yk rfl rfl yd (ov_fieldAddr rfl rfl fa73_0 rfl) ?_
  refine D_pure0 (i := 27) rfl yk rfl rfl yd (ov_fieldAddr rfl rfl fa31_1 rfl) ?_
  refine D_one (i := 24) rfl yk rfl trivial (ol_st1 rfl rfl rfl ⟨⟨⟨trivial, yn⟩, yn⟩, (tn ya ya)⟩ rfl yf tok5 ⟨xaay, ?_⟩)
  refine D_oneV (i := 28) rfl yk rfl rfl yd xaay (OpX.v (ov_indexAddr rfl rfl rfl Tryz.underlying22 rfl Tryz.sizeOf5 ya ya)) ?_
  refine D_one (i := 29) rfl yk rfl trivial (ol_st1 rfl rfl rfl ⟨⟨⟨trivial, yn⟩, yn⟩, (tn ya ya)⟩ rfl yf tok5 ⟨xaay, ?_⟩)
  refine D_end yk ?_
  refine ⟨trivial, _, .box bm 73 moverT (menQ q was m tk, was, m, tk, ()) :: M, (ResV_none rfl), ?_, rfl⟩
  exact xbey
 ·
  refine w1 ((yR (ov_fieldAddr rfl rfl fa55_3 rfl) ?_))
  refine yR (ov_load rfl rfl ye ⟨trivial, yn⟩ rfl rfl tok5) ?_
  refine yR (ov_neq rfl rfl rfl) ?_
  refine yA_ ?_
  refine RO_nil (W_cond rfl (fun hc2 => ?_) (fun hc2 => ?_))
  ·
   refine W_seq (W_regD (fun i => !Nat.beq i 18) mixed (fun w0 => ?_))
   refine D_mem0 (i := 0) rfl yk yk rfl rfl yd (ov_move rfl rfl) ?_
   refine D_mem0 (i := 1) rfl yk yk rfl rfl yd (ov_move rfl rfl) ?_
   refine D_mem0 (i := 2) rfl yk yk rfl rfl yd (ov_nilptr rfl rfl) ?_
   refine D_mem0 (i := 3) rfl yk yk rfl rfl yd (ov_fieldAddr rfl rfl fa73_0 rfl) ?_
   refine D_mem0 (i := 4) rfl yk yk rfl rfl yd (ov_load rfl rfl ye ⟨trivial, yn⟩ rfl rfl tok31) ?_
   refine D_mem0 (i := 5) rfl yk yk rfl rfl yd (ov_move rfl rfl) ?_
   refine D_mem0 (i := 6) rfl yk yk rfl rfl yd (ov_nilptr rfl rfl) ?_
   refine D_mem0 (i := 7) rfl yk yk rfl rfl yd (ov_fieldAddr rfl rfl fa73_0 rfl) ?_
   refine D_mem0 (i := 8) rfl yk yk rfl rfl yd (ov_fieldAddr rfl rfl fa31_4 rfl) ?_
   refine D_mem0 (i := 9) rfl yk yk rfl rfl yd (ov_load rfl rfl ye ⟨⟨trivial, yn⟩, yn⟩ rfl rfl tok5) ?_
   refine D_oneV (i := 10) rfl yk rfl rfl yd xaay (OpX.v (ov_fieldAddr rfl rfl fa55_3 rfl)) ?_
   refine D_oneV (i := 11) rfl yk rfl rfl yd xaay (OpX.v (ov_load rfl rfl ye ⟨trivial, yn⟩ rfl rfl tok5)) ?_
   refine D_oneV (i := 12) rfl yk rfl rfl yd xaay (yV rfl rfl rfl Tryz.call108 (c_drop_Take q hq (tu q) (mD m) _ htu.1 htu.2 hmd.1 hmd.2)) ?_
   refine D_oneV (i := 13) rfl yk rfl rfl yd xaay (OpX.v (ov_move rfl rfl)) ?_
   refine D_mem0 (i := 14) rfl yk yk rfl rfl yd (ov_extract rfl rfl rfl) ?_
   refine D_pure0 (i := 15) rfl yk rfl rfl yd (ov_extract rfl rfl rfl) ?_
   refine D_oneV (i := 16) rfl yk rfl rfl yd xaay (OpX.v (ov_nilptr rfl rfl)) ?_
   refine D_oneV (i := 17) rfl yk rfl rfl yd xaay (OpX.v (ov_fieldAddr rfl rfl fa73_0 rfl)) ?_
   refine D_one (i := 18) rfl yk rfl trivial (ol_st1 rfl rfl rfl ⟨trivial, yn⟩ rfl yf tok31 ⟨xaay, ?_⟩)
   refine D_end yk ?_
   refine W_regD (fun i => !Nat.beq i 15) mixed (fun w0 => ?_)
   refine D_mem0 (i := 0) rfl yk yk rfl rfl yd (ov_move rfl rfl) ?_
   refine D_mem0 (i := 1) rfl yk yk rfl rfl yd (ov_fieldAddr rfl rfl fa55_1 rfl) ?_
   refine D_mem0 (i := 2) rfl yk yk rfl rfl yd (ov_load rfl rfl ye ⟨trivial, yn⟩ rfl rfl tok26) ?_
   refine D_mem0 (i := 3) rfl yk yk rfl rfl yd (ov_move rfl rfl) ?_
   refine D_mem0 (i := 4) rfl yk yk rfl rfl yd (ov_nilptr rfl rfl) ?_
   refine D_mem0 (i := 5) rfl yk yk rfl rfl yd (ov_fieldAddr rfl rfl fa73_0 rfl) ?_
   refine D_mem0 (i := 6) rfl yk yk rfl rfl yd (ov_fieldAddr rfl rfl fa31_4 rfl) ?_
   refine D_mem0 (i := 7) rfl yk yk rfl rfl yd (ov_load rfl rfl ye ⟨⟨trivial, yn⟩, yn⟩ rfl rfl tok5) ?_
   refine D_mem0 (i := 8) rfl yk yk rfl rfl yd (ov_fieldAddr rfl rfl fa55_3 rfl) ?_
   refine D_mem0 (i := 9) rfl yk yk rfl rfl yd (ov_load rfl rfl ye ⟨trivial, yn⟩ rfl rfl tok5) ?_
   refine D_mem0 (i := 11) rfl yk yk rfl rfl yd (ov_nilptr rfl rfl) ?_
   refine D_mem0 (i := 12) rfl yk yk rfl rfl yd (ov_fieldAddr rfl rfl fa73_0 rfl) ?_
   refine D_mem0 (i := 13) rfl yk yk rfl rfl yd (ov_fieldAddr rfl rfl fa31_1 rfl) ?_
   refine D_oneV (i := 10) rfl yk rfl rfl yd xaay (yV rfl rfl rfl Tryz.call109 (c_pieces_Make (tu (takeP q (tu q) (mD m)).1) (mD m) _ htp.tu.1 htp.tu.2 hmd.1 hmd.2)) ?_
   refine D_oneV (i := 14) rfl yk rfl rfl yd xaay (OpX.v (ov_indexAddr rfl rfl rfl Tryz.underlying22 rfl Tryz.sizeOf5 ya ya)) ?_
   refine D_one (i := 15) rfl yk rfl trivial (ol_st1 rfl rfl rfl ⟨⟨⟨trivial, yn⟩, yn⟩, (tn ya ya)⟩ rfl yf tok5 ⟨xaay, ?_⟩)
   refine D_end yk ?_
   refine ⟨trivial, _, .box bm 73 moverT (menQ q was m tk, was, m, tk, ()) :: M, (ResV_none rfl), ?_, rfl⟩
   exact xbey
  ·
   refine W_seq (w1 ((yM ?_)))
   refine yR (ov_nilptr rfl rfl) ?_
   refine yR (ov_fieldAddr rfl rfl fa73_3 rfl) ?_
   refine yR (ov_load rfl rfl ye ⟨trivial, yn⟩ rfl rfl tok3) ?_
   refine yR (ov_geq rfl rfl rfl) ?_
   refine RO_nil (W_cond rfl (fun hc3 => ?_) (fun hc3 => ?_))
   ·
    have htk0 : 0 ≤ tk := of_decide_eq_true hc3
    refine W_regD (fun i => !Nat.beq i 9) mixed (fun w0 => ?_)
    refine D_mem0 (i := 0) rfl yk yk rfl rfl yd (ov_move rfl rfl) ?_
    refine D_mem0 (i := 1) rfl yk yk rfl rfl yd (ov_move rfl rfl) ?_
    refine D_mem0 (i := 2) rfl yk yk rfl rfl yd (ov_nilptr rfl rfl) ?_
    refine D_mem0 (i := 3) rfl yk yk rfl rfl yd (ov_fieldAddr rfl rfl fa73_3 rfl) ?_
    refine D_mem0 (i := 4) rfl yk yk rfl rfl yd (ov_load rfl rfl ye ⟨trivial, yn⟩ rfl rfl tok3) ?_
    refine D_oneV (i := 5) rfl yk rfl rfl yd xaay (OpX.v (ov_nilptr rfl rfl)) ?_
    refine D_oneV (i := 6) rfl yk rfl rfl yd xaay (OpX.v (ov_fieldAddr rfl rfl fa73_0 rfl)) ?_
    refine D_oneV (i := 7) rfl yk rfl rfl yd xaay (OpX.v (ov_fieldAddr rfl rfl fa31_1 rfl)) ?_
    refine D_oneV (i := 8) rfl yk rfl rfl yd xaay (OpX.v (ov_indexAddr rfl rfl rfl Tryz.underlying22 rfl Tryz.sizeOf5 ya ya)) ?_
    refine D_one (i := 9) rfl yk rfl trivial (ol_st1 rfl rfl rfl ⟨⟨⟨trivial, yn⟩, yn⟩, (tn ya ya)⟩ rfl yf tok5 ⟨xaay, ?_⟩)
    refine D_end yk ?_
    refine W_seq (W_regDB (fun _ => true) (B := [.box b1 55 moveT m]) mixed yb (fun w0 => ?_))
    refine D_mem0 (i := 0) rfl yk yk rfl rfl yd (ov_move rfl rfl) ?_
    refine D_mem0 (i := 1) rfl yk yk rfl rfl yd (ov_fieldAddr rfl rfl fa55_0 rfl) ?_
    refine D_mem0 (i := 2) rfl yk yk rfl rfl yd (ov_load rfl rfl ye ⟨trivial, yn⟩ rfl rfl tok26) ?_
    refine D_mem0 (i := 3) rfl yk yk rfl rfl yd (ov_move rfl rfl) ?_
    refine D_mem0 (i := 4) rfl yk yk rfl rfl yd (ov_fieldAddr rfl rfl fa55_1 rfl) ?_
    refine D_mem0 (i := 5) rfl yk yk rfl rfl yd (ov_load rfl rfl ye ⟨trivial, yn⟩ rfl rfl tok26) ?_
    refine D_mem0 (i := 6) rfl yk yk rfl rfl yd (ov_move rfl rfl) ?_
    refine D_mem0 (i := 7) rfl yk yk rfl rfl yd (ov_fieldAddr rfl rfl fa55_0 rfl) ?_
    refine D_mem0 (i := 8) rfl yk yk rfl rfl yd (ov_load rfl rfl ye ⟨trivial, yn⟩ rfl rfl tok26) ?_
    refine D_mem0 (i := 9) rfl yk yk rfl rfl yd (ov_nilptr rfl rfl) ?_
    refine D_mem0 (i := 10) rfl yk yk rfl rfl yd (ov_fieldAddr rfl rfl fa73_1 rfl) ?_
    refine D_mem0 (i := 11) rfl yk yk rfl rfl yd (ov_fieldAddr rfl rfl fa31_1 rfl) ?_
    refine D_mem0 (i := 12) rfl yk yk rfl rfl yd (ov_indexAddr rfl rfl rfl Tryz.underlying22 rfl Tryz.sizeOf5 ya ya) ?_
    refine D_mem0 (i := 14) rfl yk yk rfl rfl yd (ov_nilptr rfl rfl) ?_
    refine D_mem0 (i := 15) rfl yk yk rfl rfl yd (ov_fieldAddr rfl rfl fa73_0 rfl) ?_
    refine D_mem0 (i := 16) rfl yk yk rfl rfl yd (ov_fieldAddr rfl rfl fa31_1 rfl) ?_
    refine D_mem0 (i := 19) rfl yk yk rfl rfl yd (ov_nilptr rfl rfl) ?_
    refine D_mem0 (i := 20) rfl yk yk rfl rfl yd (ov_fieldAddr rfl rfl fa73_0 rfl) ?_
    refine D_mem0 (i := 21) rfl yk yk rfl rfl yd (ov_fieldAddr rfl rfl fa31_1 rfl) ?_
    refine D_oneV (i := 13) rfl yk rfl rfl yd xaay (OpX.v (ov_load rfl rfl ye ⟨⟨⟨trivial, yn⟩, yn⟩, (tn ya ya)⟩ rfl rfl tok5)) ?_
    refine D_oneV (i := 17) rfl yk rfl rfl yd xaay (OpX.v (ov_indexAddr rfl rfl rfl Tryz.underlying22 rfl Tryz.sizeOf5 ya ya)) ?_
    refine D_one (i := 18) rfl yk rfl trivial (ol_st1 rfl rfl rfl ⟨⟨⟨trivial, yn⟩, yn⟩, (tn ya ya)⟩ rfl yf tok5 ⟨xaay, ?_⟩)
    refine D_oneV (i := 22) rfl yk rfl rfl yd xaay (OpX.v (ov_indexAddr rfl rfl rfl Tryz.underlying22 rfl Tryz.sizeOf5 ya ya)) ?_
    refine D_one (i := 23) rfl yk rfl trivial (ol_st1 rfl rfl rfl ⟨⟨⟨trivial, yn⟩, yn⟩, (tn ya ya)⟩ rfl yf tok5 ⟨xaay, ?_⟩)
    refine D_end yk ?_
    refine w1 ((yR (ov_fieldAddr rfl rfl fa55_2 rfl) ?_))
    refine yR (ov_load rfl rfl ye ⟨trivial, yn⟩ rfl rfl tok5) ?_
    refine yR (ov_neq rfl rfl rfl) ?_
    refine RO_nil (W_cond rfl (fun hc4 => ?_) (fun hc4 => ?_))
    ·
     refine W_regD (fun i => !Nat.beq i 15) mixed (fun w0 => ?_)
     refine D_mem0 (i := 0) rfl yk yk rfl rfl yd (ov_move rfl rfl) ?_
     refine D_mem0 (i := 1) rfl yk yk rfl rfl yd (ov_fieldAddr rfl rfl fa55_1 rfl) ?_
     refine D_mem0 (i := 2) rfl yk yk rfl rfl yd (ov_load rfl rfl ye ⟨trivial, yn⟩ rfl rfl tok26) ?_
     refine D_mem0 (i := 3) rfl yk yk rfl rfl yd (ov_move rfl rfl) ?_
     refine D_mem0 (i := 4) rfl yk yk rfl rfl yd (ov_nilptr rfl rfl) ?_
     refine D_mem0 (i := 5) rfl yk yk rfl rfl yd (ov_fieldAddr rfl rfl fa73_0 rfl) ?_
     refine D_mem0 (i := 6) rfl yk yk rfl rfl yd (ov_fieldAddr rfl rfl fa31_4 rfl) ?_
     refine D_mem0 (i := 7) rfl yk yk rfl rfl yd (ov_load rfl rfl ye ⟨⟨trivial, yn⟩, yn⟩ rfl rfl tok5) ?_
     refine D_mem0 (i := 8) rfl yk yk rfl rfl yd (ov_fieldAddr rfl rfl fa55_2 rfl) ?_
     refine D_mem0 (i := 9) rfl yk yk rfl rfl yd (ov_load rfl rfl ye ⟨trivial, yn⟩ rfl rfl tok5) ?_
     refine D_mem0 (i := 11) rfl yk yk rfl rfl yd (ov_nilptr rfl rfl) ?_
     refine D_mem0 (i := 12) rfl yk yk rfl rfl yd (ov_fieldAddr rfl rfl fa73_0 rfl) ?_
     refine D_mem0 (i := 13) rfl yk yk rfl rfl yd (ov_fieldAddr rfl rfl fa31_1 rfl) ?_
     refine D_oneV (i := 10) rfl yk rfl rfl yd xaay (yV rfl rfl rfl Tryz.call109 (c_pieces_Make (tu q) (mP m) _ htu.1 htu.2 hmp.1 hmp.2)) ?_
     refine D_oneV (i := 14) rfl yk rfl rfl yd xaay (OpX.v (ov_indexAddr rfl rfl rfl Tryz.underlying22 rfl Tryz.sizeOf5 ya ya)) ?_
     refine D_one (i := 15) rfl yk rfl trivial (ol_st1 rfl rfl rfl ⟨⟨⟨trivial, yn⟩, yn⟩, (tn ya ya)⟩ rfl yf tok5 ⟨xaay, ?_⟩)
     refine D_end yk ?_
     refine ⟨trivial, _, .box bm 73 moverT (menQ q was m tk, was, m, tk, ()) :: M, (ResV_none rfl), ?_, rfl⟩
     exact xbey
    ·
     refine W_skip ⟨trivial, _, .box bm 73 moverT (menQ q was m tk, was, m, tk, ()) :: M, (ResV_none rfl), ?_, rfl⟩
     exact xbey
   ·
    refine W_skip (W_seq (W_regDB (fun _ => true) (B := [.box b1 55 moveT m]) mixed yb (fun w0 => ?_)))
    refine D_mem0 (i := 0) rfl yk yk rfl rfl yd (ov_move rfl rfl) ?_
    refine D_mem0 (i := 1) rfl yk yk rfl rfl yd (ov_fieldAddr rfl rfl fa55_0 rfl) ?_
    refine D_mem0 (i := 2) rfl yk yk rfl rfl yd (ov_load rfl rfl ye ⟨trivial, yn⟩ rfl rfl tok26) ?_
    refine D_mem0 (i := 3) rfl yk yk rfl rfl yd (ov_move rfl rfl) ?_
    refine D_mem0 (i := 4) rfl yk yk rfl rfl yd (ov_fieldAddr rfl rfl fa55_1 rfl) ?_
    refine D_mem0 (i := 5) rfl yk yk rfl rfl yd (ov_load rfl rfl ye ⟨trivial, yn⟩ rfl rfl tok26) ?_
    refine D_mem0 (i := 6) rfl yk yk rfl rfl yd (ov_move rfl rfl) ?_
    refine D_mem0 (i := 7) rfl yk yk rfl rfl yd (ov_fieldAddr rfl rfl fa55_0 rfl) ?_
    refine D_mem0 (i := 8) rfl yk yk rfl rfl yd (ov_load rfl rfl ye ⟨trivial, yn⟩ rfl rfl tok26) ?_
    refine D_mem0 (i := 9) rfl yk yk rfl rfl yd (ov_nilptr rfl rfl) ?_
    refine D_mem0 (i := 10) rfl yk yk rfl rfl yd (ov_fieldAddr rfl rfl fa73_1 rfl) ?_
    refine D_mem0 (i := 11) rfl yk yk rfl rfl yd (ov_fieldAddr rfl rfl fa31_1 rfl) ?_
    refine D_mem0 (i := 12) rfl yk yk rfl rfl yd (ov_indexAddr rfl rfl rfl Tryz.underlying22 rfl Tryz.sizeOf5 ya ya) ?_
    refine D_mem0 (i := 14) rfl yk yk rfl rfl yd (ov_nilptr rfl rfl) ?_
    refine D_mem0 (i := 15) rfl yk yk rfl rfl yd (ov_fieldAddr rfl rfl fa73_0 rfl) ?_
    refine D_mem0 (i := 16) rfl yk yk rfl rfl yd (ov_fieldAddr rfl rfl fa31_1 rfl) ?_
    refine D_mem0 (i := 19) rfl yk yk rfl rfl yd (ov_nilptr rfl rfl) ?_
    refine D_mem0 (i := 20) rfl yk yk rfl rfl yd (ov_fieldAddr rfl rfl fa73_0 rfl) ?_
    refine D_mem0 (i := 21) rfl yk yk rfl rfl yd (ov_fieldAddr rfl rfl fa31_1 rfl) ?_
    refine D_oneV (i := 13) rfl yk rfl rfl yd xaay (OpX.v (ov_load rfl rfl ye ⟨⟨⟨trivial, yn⟩, yn⟩, (tn ya ya)⟩ rfl rfl tok5)) ?_
    refine D_oneV (i := 17) rfl yk rfl rfl yd xaay (OpX.v (ov_indexAddr rfl rfl rfl Tryz.underlying22 rfl Tryz.sizeOf5 ya ya)) ?_
    refine D_one (i := 18) rfl yk rfl trivial (ol_st1 rfl rfl rfl ⟨⟨⟨trivial, yn⟩, yn⟩, (tn ya ya)⟩ rfl yf tok5 ⟨xaay, ?_⟩)
    refine D_oneV (i := 22) rfl yk rfl rfl yd xaay (OpX.v (ov_indexAddr rfl rfl rfl Tryz.underlying22 rfl Tryz.sizeOf5 ya ya)) ?_
    refine D_one (i := 23) rfl yk rfl trivial (ol_st1 rfl rfl rfl ⟨⟨⟨trivial, yn⟩, yn⟩, (tn ya ya)⟩ rfl yf tok5 ⟨xaay, ?_⟩)
    refine D_end yk ?_
    refine w1 ((yR (ov_fieldAddr rfl rfl fa55_2 rfl) ?_))
    refine yR (ov_load rfl rfl ye ⟨trivial, yn⟩ rfl rfl tok5) ?_
    refine yR (ov_neq rfl rfl rfl) ?_
    refine RO_nil (W_cond rfl (fun hc5 => ?_) (fun hc5 => ?_))
    ·
     refine W_regD (fun i => !Nat.beq i 15) mixed (fun w0 => ?_)
     refine D_mem0 (i := 0) rfl yk yk rfl rfl yd (ov_move rfl rfl) ?_
     refine D_mem0 (i := 1) rfl yk yk rfl rfl yd (ov_fieldAddr rfl rfl fa55_1 rfl) ?_
     refine D_mem0 (i := 2) rfl yk yk rfl rfl yd (ov_load rfl rfl ye ⟨trivial, yn⟩ rfl rfl tok26) ?_
     refine D_mem0 (i := 3) rfl yk yk rfl rfl yd (ov_move rfl rfl) ?_
     refine D_mem0 (i := 4) rfl yk yk rfl rfl yd (ov_nilptr rfl rfl) ?_
     refine D_mem0 (i := 5) rfl yk yk rfl rfl yd (ov_fieldAddr rfl rfl fa73_0 rfl) ?_
     refine D_mem0 (i := 6) rfl yk yk rfl rfl yd (ov_fieldAddr rfl rfl fa31_4 rfl) ?_
     refine D_mem0 (i := 7) rfl yk yk rfl rfl yd (ov_load rfl rfl ye ⟨⟨trivial, yn⟩, yn⟩ rfl rfl tok5) ?_
     refine D_mem0 (i := 8) rfl yk yk rfl rfl yd (ov_fieldAddr rfl rfl fa55_2 rfl) ?_
     refine D_mem0 (i := 9) rfl yk yk rfl rfl yd (ov_load rfl rfl ye ⟨trivial, yn⟩ rfl rfl tok5) ?_
     refine D_mem0 (i := 11) rfl yk yk rfl rfl yd (ov_nilptr rfl rfl) ?_
     refine D_mem0 (i := 12) rfl yk yk rfl rfl yd (ov_fieldAddr rfl rfl fa73_0 rfl) ?_
     refine D_mem0 (i := 13) rfl yk yk rfl rfl yd (ov_fieldAddr rfl rfl fa31_1 rfl) ?_
     refine D_oneV (i := 10) rfl yk rfl rfl yd xaay (yV rfl rfl rfl Tryz.call109 (c_pieces_Make (tu q) (mP m) _ htu.1 htu.2 hmp.1 hmp.2)) ?_
     refine D_oneV (i := 14) rfl yk rfl rfl yd xaay (OpX.v (ov_indexAddr rfl rfl rfl Tryz.underlying22 rfl Tryz.sizeOf5 ya ya)) ?_
     refine D_one (i := 15) rfl yk rfl trivial (ol_st1 rfl rfl rfl ⟨⟨⟨trivial, yn⟩, yn⟩, (tn ya ya)⟩ rfl yf tok5 ⟨xaay, ?_⟩)
     refine D_end yk ?_
     refine ⟨trivial, _, .box bm 73 moverT (menQ q was m tk, was, m, tk, ()) :: M, (ResV_none rfl), ?_, rfl⟩
     exact xbey
    ·
     refine W_skip ⟨trivial, _, .box bm 73 moverT (menQ q was m tk, was, m, tk, ()) :: M, (ResV_none rfl), ?_, rfl⟩
     exact xbey

theorem c_after_mover_pocket_1 (s : Int) (q was : Pos) (m : Mv) (tk : Int) (bm t1 b2 t2 : Nat) (M : List Fact) (m1 : Fact.box bm t1 moverT (q, was, m, tk, ()) ∈ M) (m2 : Fact.one b2 t2 (ptrv bm moverT []) ∈ M) : Pure Tryz.prog 110 [.int .i64 s, .pointer (some ⟨b2, 0, none⟩)] M (.bool (bitAt (pm was) s)) := by
 refine pure_of_W (n := 14) Tryz.func110 rfl rfl yn ?_
 refine w1 ((yA_ ?_))
 refine RO_nil (w1 ((yR (ov_load1 rfl rfl ye Tryz.isAgg70) ?_)))
 refine yR (ov_nilptr rfl rfl) ?_
 refine yR (ov_fieldAddr rfl rfl fa73_1 rfl) ?_
 refine yR (ov_fieldAddr rfl rfl fa31_2 rfl) ?_
 refine yR (ov_load rfl rfl ye ⟨⟨trivial, yn⟩, yn⟩ rfl rfl tok23) ?_
 refine yM ?_
 refine yR (ov_conv64 rfl rfl Tryz.underlying3 Tryz.underlying111) ?_
 refine yR (ov_shr64 rfl rfl rfl ya) ?_
 refine yR (ov_bits (b := 1#64) rfl rfl rfl (.inl ⟨rfl, rfl⟩)) ?_
 refine yR (ov_eql64 (b := 1#64) rfl rfl rfl) ?_
 refine yA_ ?_
 refine RO_nil (W_ret ⟨trivial, yb, (ResV_tmp1 rfl rfl ?_)⟩)
 rfl
end Go.Kw
