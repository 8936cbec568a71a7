/- A part of the proof: KwR15, KwR16, KwR17, KwR19, KwR22, KwQ4, KwQ5. -/
import Derived.Test.YtpakilamdannfaaGreatDoorKg
set_option linter.all false
set_option linter.unusedVariables false
set_option linter.unusedSimpArgs false
set_option linter.unusedSectionVars false
set_option maxRecDepth 20000
set_option linter.unusedVariables false
namespace Go.Kw
open Go.Proofs


def dBad (p : Pos) (kd s : Int) : Bool := !decide (kind (pb p s) = 0) || (decide (kd = 1) && (decide (s < 8) || decide (55 < s)))
def dOne (p : Pos) (kd : Int) (s : Nat) : List Mv := if dBad p kd (s : Int) = true then [] else [dropM kd (s : Int)]
def dAll (p : Pos) (kd : Int) (j : Nat) : List Mv := (List.range j).flatMap (dOne p kd)
def dKind (p : Pos) (kd : Int) : List Mv := if 0 < pkAt p (tu p) kd then dAll p kd 64 else []
def dO (p : Pos) (i : Nat) : List Mv := (List.range i).flatMap fun k : Nat => dKind p ((k : Int) + 1)
def dJ (p : Pos) (i j : Nat) : List Mv := dO p i ++ dAll p ((i : Int) + 1) j
def list15 (p : Pos) : List Mv := if (decide (1 < tu p) || !decide (vr p = 2)) = true then [] else dO p 5
theorem list15_n {p : Pos} (h : (decide (1 < tu p) || !decide (vr p = 2)) = true) : list15 p = [] := if_pos h
theorem list15_y {p : Pos} (h : (decide (1 < tu p) || !decide (vr p = 2)) = false) : list15 p = dO p 5 := if_neg xasy
theorem dJ_0 (p : Pos) (i : Nat) : dJ p i 0 = dO p i := by unfold dJ dAll; simp
theorem dAll_next (p : Pos) (kd : Int) (j : Nat) : dAll p kd (j + 1) = dAll p kd j ++ dOne p kd j := range_flat _ _
theorem dJ_no (p : Pos) (i j : Nat) (h : dBad p ((i : Int) + 1) (j : Int) = true) : dJ p i (j + 1) = dJ p i j := by
  unfold dJ; rw [dAll_next, dOne, if_pos h, List.append_nil]
theorem dJ_yes (p : Pos) (i j : Nat) (h : dBad p ((i : Int) + 1) (j : Int) = false) : dJ p i (j + 1) = dJ p i j ++ [dropM ((i : Int) + 1) (j : Int)] := by
  unfold dJ; rw [dAll_next, dOne, if_neg xasy, List.append_assoc]
theorem dJ_end (p : Pos) (i j : Nat) (h1 : j ≤ 64) (h2 : 0 < j → 0 < pkAt p (tu p) ((i : Int) + 1)) (h : (decide (((j : Nat) : Int) < 64) && decide (0 < pkAt p (tu p) ((i : Int) + 1))) = false) : dJ p i j = dO p (i + 1) := by
  unfold dJ dO; rw [range_flat]
  congr 1
  unfold dKind
  split
  · rename_i hk
    rw [show decide (0 < pkAt p (tu p) ((i : Int) + 1)) = true from decide_eq_true hk, Bool.and_true] at h
    have := of_decide_eq_false h
    rw [show j = 64 by omega]
  · rename_i hk
    rw [show j = 0 by rcases Nat.eq_zero_or_pos j with h | h; exact h; exact absurd (h2 h) hk]; rfl
theorem dAll_len (p : Pos) (kd : Int) (j : Nat) : (dAll p kd j).length ≤ j * 1 := range_len _ 1 (fun s => by unfold dOne; split <;> simp) j
theorem dO_len (p : Pos) (i : Nat) : (dO p i).length ≤ i * 64 := range_len _ 64 (fun k => by
  unfold dKind; split
  · exact dAll_len p _ 64
  · exact Nat.zero_le _) i
theorem dJ_len (p : Pos) (i j : Nat) (hi : i ≤ 5) (hj : j ≤ 64) : (dJ p i j).length ≤ 400 := by
  have h1 := dO_len p i
  have h2 := dAll_len p ((i : Int) + 1) j
  unfold dJ; rw [List.length_append]; omega
theorem list13_len (p : Pos) : (list13 p).length ≤ 20480 := by
  unfold list13; split
  · exact Nat.zero_le _
  · exact listI_len p 64
theorem list14_len (p : Pos) : (list14 p).length ≤ 2 := outR_len p 2
theorem list15_len (p : Pos) : (list15 p).length ≤ 320 := by
  unfold list15; split
  · exact Nat.zero_le _
  · exact dO_len p 5
theorem ndec {P : Prop} [Decidable P] (h : (!decide P) = true) : ¬ P := by simpa using h
def allR (p : Pos) : List Mv := (list13 p ++ list14 p) ++ list15 p
structure LMv (p : Pos) (m : Mv) : Prop where
  t : tu p ≤ 1
  f : 0 ≤ mF m ∧ mF m < 64
  to : 0 ≤ mT m ∧ mT m < 64
  pr : 0 ≤ mP m ∧ mP m ≤ 7
  d : ¬ mD m = 0 → (1 ≤ mD m ∧ mD m ≤ 5) ∧ 1 ≤ pkAt p (tu p) (mD m)
def men3r (p q : Pos) (m : Mv) : Pos := if (!decide (mP m = 0)) = true then putB q (mT m) (8 * tu p + mP m) else q
def menR (p : Pos) (m : Mv) (tk : Int) : Pos :=
  if mC m = true then putB (putB (putB (putB p (mF m) 0) (mT m) 0) (56 * tu p + (goR (sideR p m)).1) (pb p (mF m))) (56 * tu p + (goR (sideR p m)).2) (pb p (mT m))
  else if (!decide (mD m = 0)) = true then putB (setPk p (tu p) (mD m) (pkAt p (tu p) (mD m) - 1)) (mT m) (8 * tu p + mD m)
  else men3r p (men2 (men1 p tk) p m) m
theorem POK_men1 {q : Pos} (hq : POK q) (tk : Int) : POK (men1 q tk) := by
  unfold men1; split
  · exact POK_put hq _ yd yd
  · exact hq
theorem POK_men2 {q was : Pos} (hq : POK q) (hw : POK was) (m : Mv) : POK (men2 q was m) :=
  POK_put (POK_put hq _ yd yd) _ (hw.board _).1 (hw.board _).2
theorem POK_men3r {p q : Pos} {m : Mv} (hp : POK p) (hm : MOK m) (hL : LMv p m) (hq : POK q) : POK (men3r p q m) := by
  unfold men3r; split
  · have h1 := hp.tu
    have h2 := hL.t
    have h3 := hL.pr
    exact POK_put hq _ yo yo
  · exact hq
theorem pkt1_rng (p : Pos) (tk : Int) : 0 ≤ pkt1 p tk ∧ pkt1 p tk ≤ 255 := by
  unfold pkt1; split
  · exact ⟨by decide, by decide⟩
  · exact kind_rng _
def pk2 (p q : Pos) (tk : Int) : Pos := if decide (0 ≤ tk) = true then (if ((decide (1 ≤ pkt1 p tk) && decide (pkt1 p tk ≤ 5)) && decide (pkAt q (tu p) (pkt1 p tk) < 255)) = true then setPk q (tu p) (pkt1 p tk) (pkAt q (tu p) (pkt1 p tk) + 1) else q) else q
theorem POK_pk2 {p q : Pos} (hq : POK q) (tk : Int) : POK (pk2 p q tk) := by
  have h := pkAt_rng hq (tu p) (pkt1 p tk)
  unfold pk2; split
  · split
    · rename_i hn
      have := of_decide_eq_true (Bool.and_eq_true_iff.1 hn).2
      exact POK_setPk hq _ _ yo yo
    · exact hq
  · exact hq
def markF (p : Pos) (m : Mv) (tk : Int) (i : Nat) : Bool := (bitAt (pm p) (i : Int) && !decide ((i : Int) = tk)) && !decide ((i : Int) = mF m)
def mk2 (p : Pos) (m : Mv) (tk : Int) : BitVec 64 := if (!decide (mP m = 0) || bitAt (pm p) (mF m)) = true then setOf (markF p m tk) 64 ||| shlB (mT m) else setOf (markF p m tk) 64
def pocketR (p q : Pos) (m : Mv) (tk : Int) : Pos :=
  if (!decide (vr p = 2) || !decide (mD m = 0)) = true then q
  else if mC m = true then (if bitAt (pm p) (mT m) = true then setPm (setPm q (pm p &&& ~~~shlB (mT m))) ((pm p &&& ~~~shlB (mT m)) ||| shlB (56 * tu p + (goR (sideR p m)).2)) else q)
  else setPm (pk2 p q tk) (mk2 p m tk)
def blF (p : Pos) (s : Int) (i : Nat) : Bool := decide ((i : Int) = s) || ((beside (i : Int) s && !decide (kind (pb p (i : Int)) = 0)) && !decide (kind (pb p (i : Int)) = 1))
def blownR (p : Pos) (s : Int) : BitVec 64 := setOf (blF p s) 64

theorem c_ref15_List (p : Pos) (hp : POK p) (M : List Fact) : Con Tryz.prog 62 [enc posT p] M (fun u M' => M' = .row u 55 moveT (list15 p) :: M) := by
 obtain ⟨hb, hpw, hvr, htu, hpg, hvr0, htu0⟩ := hp.head
 refine con_of_W (n := 61) Tryz.func62 rfl rfl yn ?_
 refine w2 (fun w0 => ?_)
 refine LO_l rfl (by decide : 1 < 61) (ol_box (t := posT) rfl rfl rfl yf (fun b1 => ?_))
 refine zA ?_
 refine LO_nil (W_seq (W_row 55 moveT ?_))
 refine W_reg (yA_ ?_)
 refine RO_nil (W_seq (w1 ((yR (ov_fieldAddr rfl rfl fa31_4 rfl) ?_))))
 refine yR (ov_load rfl rfl ye ⟨trivial, yn⟩ rfl rfl tok5) ?_
 refine yR (ov_gtr rfl rfl rfl) ?_
 refine yM ?_
 refine yG (fun hg => OpX.v (ov_fieldAddr rfl rfl fa31_0 rfl)) ?_
 refine yG (fun hg => OpX.v (ov_load rfl (look_gv rfl (bq hg)) ye ⟨trivial, yn⟩ rfl rfl tok5)) ?_
 refine yG (fun hg => OpX.v (ov_neq rfl (look_gv rfl (bq hg)) rfl)) ?_
 refine yR (ov_or rfl rfl rfl rfl (fun h => bq h)) ?_
 refine RO_nil (W_cond rfl (fun hc1 => ?_) (fun hc1 => ?_))
 ·
  refine w1 ((yM ?_))
  refine yA_ ?_
  refine RO_nil (W_ret ⟨trivial, _, .row _ 55 moveT (list15 p) :: M, (ResV_tmp1 rfl rfl rfl), ?_, rfl⟩)
  first | (rw [list15_n hc1]; exact yb) | (rw [list15_y hc1, show 5 = i by omega]; exact yb)
 ·
  have ht1 : tu p ≤ 1 := Int.not_lt.1 (of_decide_eq_false (Bool.or_eq_false_iff.1 hc1).1)
  have ht2 := ht1
  simp only [tu] at ht2
  refine W_skip (W_seq (w1 ((yA_ ?_))))
  refine RO_nil (W_block (W_loop (σ := Nat × Value) (fun s => s.1 ≤ 5) (fun s => [(1, ptrv b1 posT []), (4, .int .u8 ((s.1 : Int) + 1)), (3, s.2)]) (fun s => .row s.2 55 moveT (dO p s.1) :: .box b1 31 posT p :: M) (fun s => 5 - s.1) ((0, .slice none 0 0)) (by simp) ⟨rfl, rfl, rfl, trivial⟩ yb ?_))
  rintro ⟨i, v⟩ hI
  simp only at hI
  refine W_seq (w1 ((yM ?_)))
  refine yR (ov_leq rfl rfl rfl) ?_
  refine RO_nil (W_cond rfl (fun hc2 => ?_) (fun hc2 => ?_))
  ·
   try simp only [yS] at hc2
   have hpr := pkAt_rng hp (tu p) ((i : Int) + 1)
   have hpr0 := hpr
   simp only [pkAt, pk, tu] at hpr0
   refine W_skip (W_seq (W_block (w1 ((yA_ ?_)))))
   refine RO_nil (W_block (W_loop (σ := Nat × Value) (fun s => s.1 ≤ 64 ∧ (0 < s.1 → 0 < pkAt p (tu p) ((i : Int) + 1))) (fun s => [(1, ptrv b1 posT []), (4, .int .u8 ((i : Int) + 1)), (5, .int .i64 (s.1 : Int)), (3, s.2)]) (fun s => .row s.2 55 moveT (dJ p i s.1) :: .box b1 31 posT p :: M) (fun s => 64 - s.1) ((0, v)) ⟨by simp, fun h => absurd h (by simp)⟩ ⟨rfl, rfl, rfl, rfl, trivial⟩ (by show List.Sublist (Fact.row v 55 moveT (dJ p i 0) :: _) _; rw [dJ_0]; exact yb) ?_))
   rintro ⟨j, v5⟩ hJ
   simp only at hJ
   refine W_seq (w1 ((yM ?_)))
   refine yR (ov_lss rfl rfl rfl) ?_
   refine yM ?_
   refine yG (fun hg => OpX.v (ov_fieldAddr rfl rfl fa31_4 rfl)) ?_
   refine yG (fun hg => OpX.v (ov_load rfl (look_gv rfl (bq hg)) ye ⟨trivial, yn⟩ rfl rfl tok5)) ?_
   refine gM ?_
   refine yG (fun hg => OpX.v (ov_fieldAddr rfl rfl fa31_3 rfl)) ?_
   refine yG (fun hg => OpX.v (ov_indexAddr rfl (look_gv rfl (bq hg)) (look_gv rfl (bq hg)) Tryz.underlying25 rfl Tryz.sizeOf24 ya ya)) ?_
   refine yG (fun hg => OpX.v (ov_indexAddr rfl (look_gv rfl (bq hg)) (look_gv rfl (bq hg)) Tryz.underlying24 rfl Tryz.sizeOf5 ya ya)) ?_
   refine yG (fun hg => OpX.v (ov_load rfl (look_gv rfl (bq hg)) ye ⟨⟨⟨trivial, yn⟩, (tn ya ya)⟩, (tn ya ya)⟩ rfl rfl tok5)) ?_
   refine yG (fun hg => OpX.v (ov_gtr rfl (look_gv rfl (bq hg)) rfl)) ?_
   refine yR (ov_and rfl rfl rfl rfl (fun h => bq h)) ?_
   refine RO_nil (W_cond rfl (fun hc3 => ?_) (fun hc3 => ?_))
   ·
    have hj64 : j < 64 := by have := of_decide_eq_true (Bool.and_eq_true_iff.1 hc3).1; omega
    have hpk := of_decide_eq_true (Bool.and_eq_true_iff.1 hc3).2
    have hpk1 : 0 < pkAt p (tu p) ((i : Int) + 1) := hpk
    have hjl := dJ_len p i j yo yo
    refine W_skip (W_seq (W_block (W_seq (w1 ((yM ?_))))))
    refine yR (ov_fieldAddr rfl rfl fa31_1 rfl) ?_
    refine yR (ov_indexAddr rfl rfl rfl Tryz.underlying22 rfl Tryz.sizeOf5 ya ya) ?_
    refine yR (ov_load rfl rfl ye ⟨⟨trivial, yn⟩, (tn ya ya)⟩ rfl rfl tok5) ?_
    refine yP (yV rfl rfl rfl Tryz.call84 xany) ?_
    refine yR (ov_neq rfl rfl rfl) ?_
    refine yM ?_
    refine gM ?_
    refine yG (fun hg => OpX.v (ov_eql rfl (look_gv rfl (bq hg)) rfl)) ?_
    refine yG (fun hg => OpX.v (ov_move rfl (look_gv rfl (bq hg)))) ?_
    refine RO_g rfl rfl rfl rfl rfl yd (fun hg1 hg2 => OpX.v (ov_move rfl rfl)) ?_
    refine RO_g rfl rfl rfl rfl rfl yd (fun hg1 hg2 => OpX.v (ov_lss rfl (look_gv rfl (bq2 hg1 hg2)) rfl)) ?_
    refine RO_g rfl rfl rfl rfl rfl yd (fun hg1 hg2 => OpX.v (ov_move rfl (look_gv rfl (bq2 hg1 hg2)))) ?_
    refine RO_g rfl rfl rfl rfl rfl yd (fun hg1 hg2 => OpX.v (ov_move rfl rfl)) ?_
    refine RO_g rfl rfl rfl rfl rfl yd (fun hg1 hg2 => OpX.v (ov_gtr rfl (look_gv rfl (bq2 hg1 hg2)) rfl)) ?_
    refine RO_g rfl rfl rfl rfl rfl yd (fun hg1 hg2 => OpX.v (ov_or rfl (look_gv rfl (bq2 hg1 hg2)) rfl rfl (fun h => bq2 (bq2 hg1 hg2) h))) ?_
    refine yG (fun hg => OpX.v (ov_and rfl (look_gv rfl (bq hg)) rfl rfl (fun h => bq2 (bq hg) h))) ?_
    refine yR (ov_or rfl rfl rfl rfl (fun h => bq h)) ?_
    refine RO_nil (W_cond rfl (fun hc4 => ?_) (fun hc4 => ?_))
    ·
     refine W_exit (W_reg (yM ?_))
     refine yR (ov_add rfl rfl rfl ya) ?_
     refine yA_ ?_
     refine RO_nil ?_
     exact ⟨(j + 1, _), xaly, ⟨by simp only; omega, fun _ => hpk1⟩, ⟨rfl, rfl, rfl, rfl, trivial⟩, (by first | (rw [dJ_no p i j hc4]; exact yb) | (rw [dJ_yes p i j hc4]; exact yb))⟩
    ·
     refine W_skip (W_regl (fun w0 => ?_))
     refine zM ?_
     refine zM ?_
     refine yL (ov_convn rfl rfl Tryz.underlying3 Tryz.underlying26 ya) ?_
     refine zM ?_
     refine yL (ov_convn rfl rfl Tryz.underlying3 Tryz.underlying26 ya) ?_
     refine zM ?_
     refine yL (ov_build (fs := fs54) (ds := [⟨0, _⟩, ⟨1, _⟩, ⟨3, _⟩]) rfl rfl bl55 ⟨yn, yf, ⟨yn, yf, ⟨yn, yf, trivial⟩⟩⟩ rfl) ?_
     refine LO_l rfl (by decide : 58 < 61) (ol_buildSlice (t := moveT) (xs := [_]) rfl rfl rfl Tryz.underlying48 tok55 xaey yd yd yd (fun v1 => ?_))
     refine LO_l rfl (by decide : 59 < 61) (ol_ap1 (t := moveT) rfl rfl rfl xaby ap48 xafy xafy (fun v2 => ?_))
     refine zA ?_
     refine LO_nil (W_reg (yM ?_))
     refine yR (ov_add rfl rfl rfl ya) ?_
     refine yA_ ?_
     refine RO_nil ?_
     exact ⟨(j + 1, _), xaly, ⟨by simp only; omega, fun _ => hpk1⟩, ⟨rfl, rfl, rfl, rfl, trivial⟩, (by first | (rw [dJ_no p i j hc4]; exact yb) | (rw [dJ_yes p i j hc4]; exact yb))⟩
   ·
    refine W_exit (W_reg (yM ?_))
    refine yR (ov_add rfl rfl rfl ya) ?_
    refine yA_ ?_
    refine RO_nil ?_
    exact ⟨(i + 1, _), xaly, xaly, ⟨rfl, rfl, rfl, trivial⟩, (by rw [← dJ_end p i j hJ.1 hJ.2 hc3]; exact yb)⟩
  ·
   try simp only [yS] at hc2
   refine W_exit (w1 ((yM ?_)))
   refine yA_ ?_
   refine RO_nil (W_ret ⟨trivial, _, .row _ 55 moveT (list15 p) :: M, (ResV_tmp1 rfl rfl rfl), ?_, rfl⟩)
   first | (rw [list15_n hc1]; exact yb) | (rw [list15_y hc1, show 5 = i by omega]; exact yb)

theorem c_ref16_All (p : Pos) (hp : POK p) (M : List Fact) : Con Tryz.prog 24 [enc posT p] M (fun u M' => M' = .row u 55 moveT (allR p) :: M) := by
 obtain ⟨hb, hpw, hvr, htu, hpg, hvr0, htu0⟩ := hp.head
 have hl3 := list13_len p
 have hl4 := list14_len p
 have hl5 := list15_len p
 refine con_of_W (n := 16) Tryz.func24 rfl rfl yn ?_
 refine w2 (fun w0 => ?_)
 refine LO_l rfl (by decide : 1 < 16) (ol_box (t := posT) rfl rfl rfl yf (fun b1 => ?_))
 refine zA ?_
 refine LO_nil (W_seq (W_row 55 moveT ?_))
 refine W_reg (yA_ ?_)
 refine RO_nil (w2 (fun w0 => ?_))
 refine zM ?_
 refine yL (ov_load rfl rfl ye trivial rfl rfl tok31) ?_
 refine LO_l rfl (by decide : 6 < 16) (ol_call (v0 := []) (v2 := []) rfl rfl rfl Tryz.call60 (Con.mono (by apply c_ref13_List <;> exact yz) ?_))
 rintro u3 _ rfl
 refine LO_l rfl (by decide : 7 < 16) (ol_ap1 (t := moveT) rfl rfl rfl xaby ap48 xafy xafy (fun v1 => ?_))
 refine zA ?_
 refine LO_nil (w2 (fun w0 => ?_))
 refine zM ?_
 refine yL (ov_load rfl rfl ye trivial rfl rfl tok31) ?_
 refine LO_l rfl (by decide : 10 < 16) (ol_call (v0 := []) (v2 := []) rfl rfl rfl Tryz.call61 (Con.mono (by apply c_ref14_List <;> exact yz) ?_))
 rintro u4 _ rfl
 refine LO_l rfl (by decide : 11 < 16) (ol_ap2 (t := moveT) rfl rfl rfl xaby ap48 xafy xafy (fun v2 => ?_))
 refine zA ?_
 refine LO_nil (w2 (fun w0 => ?_))
 refine zM ?_
 refine yL (ov_load rfl rfl ye trivial rfl rfl tok31) ?_
 refine LO_l rfl (by decide : 14 < 16) (ol_call (v0 := []) (v2 := []) rfl rfl rfl Tryz.call62 (Con.mono (by apply c_ref15_List <;> exact yz) ?_))
 rintro u5 _ rfl
 refine LO_l rfl (by decide : 15 < 16) (ol_ap3 (t := moveT) rfl rfl rfl xaby ap48 xafy xafy (fun v3 => ?_))
 refine zA ?_
 refine LO_nil (W_ret ⟨trivial, _, .row _ 55 moveT (allR p) :: M, (ResV_tmp1 rfl rfl rfl), ?_, rfl⟩)
 exact yb

theorem c_ref16_Has (b : BitVec 64) (s : Int) (M : List Fact) : Pure Tryz.prog 122 [u64v b, .int .i64 s] M (.bool (bitAt b s)) := by
 refine pure_of_W (n := 11) Tryz.func122 rfl rfl yn ?_
 refine w1 ((yA_ ?_))
 refine RO_nil (w1 ((yM ?_)))
 refine yM ?_
 refine yR (ov_conv64 rfl rfl Tryz.underlying3 Tryz.underlying111) ?_
 refine yR (ov_shr64 rfl rfl rfl ya) ?_
 refine yR (ov_bits (b := 1#64) rfl rfl rfl (.inl ⟨rfl, rfl⟩)) ?_
 refine yR (ov_eql64 (b := 1#64) rfl rfl rfl) ?_
 refine yA_ ?_
 refine RO_nil (W_ret ⟨trivial, yb, (ResV_tmp1 rfl rfl ?_)⟩)
 rfl

theorem c_ref16_men (p : Pos) (hp : POK p) (m : Mv) (hm : MOK m) (tk : Int) (M : List Fact) (hL : LMv p m) (htk : -1 ≤ tk ∧ tk < 64) : Pure Tryz.prog 119 [enc posT p, enc moveT m, .int .i64 tk] M (enc posT (menR p m tk)) := by
 obtain ⟨hb, hpw, hvr, htu, hpg, hvr0, htu0⟩ := hp.head
 have hmF := hm.f
 have hmT := hm.t
 have hmP := hm.p
 have hmD := hm.d
 have hmF0 := hm.f
 have hmT0 := hm.t
 have hmP0 := hm.p
 have hmD0 := hm.d
 simp only [mF] at hmF0
 simp only [mT] at hmT0
 simp only [mP] at hmP0
 simp only [mD] at hmD0
 have ht := hL.t
 have ht2 := hL.t
 simp only [tu] at ht2
 have hF := hL.f
 have hF0 := hL.f
 simp only [mF] at hF0
 have hT := hL.to
 have hT0 := hL.to
 simp only [mT] at hT0
 have hmw := wf_move m
 have hgo := goR_rng (sideR p m)
 have hPm := hL.pr
 have hPm0 := hL.pr
 simp only [mP] at hPm0
 refine pure_of_W (n := 116) Tryz.func119 rfl rfl yn ?_
 refine w2 (fun w0 => ?_)
 refine LO_l rfl (by decide : 3 < 116) (ol_box (t := posT) rfl rfl rfl yf (fun b1 => ?_))
 refine LO_l rfl (by decide : 4 < 116) (ol_box (t := moveT) rfl rfl rfl yf (fun b2 => ?_))
 refine LO_l rfl (by decide : 6 < 116) (ol_alloc (t := posT) rfl tok31 yf (fun b3 => ?_))
 refine LO_nil (w2 (fun w0 => ?_))
 refine yL (ov_load rfl rfl ye trivial rfl rfl tok31) ?_
 refine LO_l rfl (by decide : 7 < 116) (ol_alloc (t := posT) rfl tok31 yf (fun b4 => ?_))
 refine LO_l rfl trivial (ol_sw0 rfl rfl rfl rfl yf tok31 ?_)
 refine LO_nil (w1 ((yR (ov_fieldAddr rfl rfl fa55_0 rfl) ?_)))
 refine yR (ov_load rfl rfl ye ⟨trivial, yn⟩ rfl rfl tok26) ?_
 refine yR (ov_fieldAddr rfl rfl fa31_1 rfl) ?_
 refine yR (ov_indexAddr rfl rfl rfl Tryz.underlying22 rfl Tryz.sizeOf5 ya ya) ?_
 refine yR (ov_load rfl rfl ye ⟨⟨trivial, yn⟩, (tn ya ya)⟩ rfl rfl tok5) ?_
 refine yA_ ?_
 refine RO_nil (W_seq (W_block (w1 ((yR (ov_fieldAddr rfl rfl fa55_4 rfl) ?_)))))
 refine yR (ov_load rfl rfl ye ⟨trivial, yn⟩ rfl rfl tok4) ?_
 refine yA_ ?_
 refine RO_nil (W_cond rfl (fun hc1 => ?_) (fun hc1 => ?_))
 ·
  have hw4 := (POK_put (POK_put (POK_put (POK_put hp (mF m) (v := 0) yd yd) (mT m) (v := 0) yd yd) (56 * tu p + (goR (sideR p m)).1) (v := pb p (mF m)) (hb _).1 (hb _).2) (56 * tu p + (goR (sideR p m)).2) (v := pb p (mT m)) (hb _).1 (hb _).2).wf
  refine w1 ((yR (ov_load rfl rfl ye trivial rfl rfl tok31) ?_))
  refine yR (ov_load rfl rfl ye trivial rfl rfl tok55) ?_
  refine yP (yV rfl rfl rfl Tryz.call173 (c_ref14_Side p hp m hm _)) ?_
  refine yA_ ?_
  refine RO_nil (w1 ((yM ?_)))
  refine yP (yV rfl rfl rfl Tryz.call174 (by apply c_ref14_Goals <;> exact yz)) ?_
  refine yM ?_
  refine yR (ov_extract rfl rfl rfl) ?_
  refine yR (ov_extract rfl rfl rfl) ?_
  refine yA_ ?_
  refine yA_ ?_
  refine RO_nil (w1 ((yR (ov_fieldAddr rfl rfl fa31_4 rfl) ?_)))
  refine yR (ov_load rfl rfl ye ⟨trivial, yn⟩ rfl rfl tok5) ?_
  refine yR (ov_convn rfl rfl Tryz.underlying5 Tryz.underlying3 ya) ?_
  refine yR (ov_mul rfl rfl rfl ya) ?_
  refine yA_ ?_
  refine RO_nil (w1 ((yR (ov_fieldAddr rfl rfl fa55_1 rfl) ?_)))
  refine yR (ov_load rfl rfl ye ⟨trivial, yn⟩ rfl rfl tok26) ?_
  refine yR (ov_fieldAddr rfl rfl fa31_1 rfl) ?_
  refine yR (ov_indexAddr rfl rfl rfl Tryz.underlying22 rfl Tryz.sizeOf5 ya ya) ?_
  refine yR (ov_load rfl rfl ye ⟨⟨trivial, yn⟩, (tn ya ya)⟩ rfl rfl tok5) ?_
  refine yA_ ?_
  refine RO_nil (w2 (fun w0 => ?_))
  refine yL (ov_fieldAddr rfl rfl fa55_0 rfl) ?_
  refine yL (ov_load rfl rfl ye ⟨trivial, yn⟩ rfl rfl tok26) ?_
  refine yL (ov_fieldAddr rfl rfl fa31_1 rfl) ?_
  refine yL (ov_indexAddr rfl rfl rfl Tryz.underlying22 rfl Tryz.sizeOf5 ya ya) ?_
  refine LO_l rfl trivial (ol_st0 rfl rfl rfl ⟨⟨trivial, yn⟩, (tn ya ya)⟩ rfl yf tok5 ?_)
  refine LO_nil (w2 (fun w0 => ?_))
  refine yL (ov_fieldAddr rfl rfl fa55_1 rfl) ?_
  refine yL (ov_load rfl rfl ye ⟨trivial, yn⟩ rfl rfl tok26) ?_
  refine yL (ov_fieldAddr rfl rfl fa31_1 rfl) ?_
  refine yL (ov_indexAddr rfl rfl rfl Tryz.underlying22 rfl Tryz.sizeOf5 ya ya) ?_
  refine LO_l rfl trivial (ol_st0 rfl rfl rfl ⟨⟨trivial, yn⟩, (tn ya ya)⟩ rfl yf tok5 ?_)
  refine LO_nil (w2 (fun w0 => ?_))
  refine zM ?_
  refine zM ?_
  refine yL (ov_add rfl rfl rfl ya) ?_
  refine zM ?_
  refine yL (ov_fieldAddr rfl rfl fa31_1 rfl) ?_
  refine yL (ov_indexAddr rfl rfl rfl Tryz.underlying22 rfl Tryz.sizeOf5 ya ya) ?_
  refine LO_l rfl trivial (ol_st0 rfl rfl rfl ⟨⟨trivial, yn⟩, (tn ya ya)⟩ rfl yf tok5 ?_)
  refine LO_nil (w2 (fun w0 => ?_))
  refine zM ?_
  refine zM ?_
  refine yL (ov_add rfl rfl rfl ya) ?_
  refine zM ?_
  refine yL (ov_fieldAddr rfl rfl fa31_1 rfl) ?_
  refine yL (ov_indexAddr rfl rfl rfl Tryz.underlying22 rfl Tryz.sizeOf5 ya ya) ?_
  refine LO_l rfl trivial (ol_st0 rfl rfl rfl ⟨⟨trivial, yn⟩, (tn ya ya)⟩ rfl yf tok5 ?_)
  refine LO_nil (w2 (fun w0 => ?_))
  refine yL (ov_load rfl rfl ye trivial rfl rfl tok31) ?_
  refine LO_l rfl trivial (ol_sw1 rfl rfl rfl rfl yf tok31 ?_)
  refine LO_nil (W_ret ⟨trivial, yb, (ResV_cell rfl rfl ye rfl tok31 ?_)⟩)
  exact xbvy
 ·
  refine w1 ((yR (ov_fieldAddr rfl rfl fa55_3 rfl) ?_))
  refine yR (ov_load rfl rfl ye ⟨trivial, yn⟩ rfl rfl tok5) ?_
  refine yR (ov_neq rfl rfl rfl) ?_
  refine yA_ ?_
  refine RO_nil (W_cond rfl (fun hc2 => ?_) (fun hc2 => ?_))
  ·
   have hD := hL.d (ndec hc2)
   have hD0 := hD
   simp only [mD, pkAt, pk, tu] at hD0
   have hpr := pkAt_rng hp (tu p) (mD m)
   have hpr0 := hpr
   simp only [pkAt, pk, tu, mD] at hpr0
   have hw4 := (POK_put (POK_setPk hp (tu p) (mD m) (x := pkAt p (tu p) (mD m) - 1) yo yo) (mT m) (v := 8 * tu p + mD m) yo yo).wf
   refine W_seq (W_regD (fun i => !Nat.beq i 12) mixed (fun w0 => ?_))
   refine D_mem0 (i := 0) rfl yk yk rfl rfl yd (ov_fieldAddr rfl rfl fa31_4 rfl) ?_
   refine D_mem0 (i := 1) rfl yk yk rfl rfl yd (ov_load rfl rfl ye ⟨trivial, yn⟩ rfl rfl tok5) ?_
   refine D_mem0 (i := 2) rfl yk yk rfl rfl yd (ov_fieldAddr rfl rfl fa55_3 rfl) ?_
   refine D_mem0 (i := 3) rfl yk yk rfl rfl yd (ov_load rfl rfl ye ⟨trivial, yn⟩ rfl rfl tok5) ?_
   refine D_mem0 (i := 4) rfl yk yk rfl rfl yd (ov_fieldAddr rfl rfl fa31_3 rfl) ?_
   refine D_mem0 (i := 5) rfl yk yk rfl rfl yd (ov_indexAddr rfl rfl rfl Tryz.underlying25 rfl Tryz.sizeOf24 ya ya) ?_
   refine D_mem0 (i := 6) rfl yk yk rfl rfl yd (ov_indexAddr rfl rfl rfl Tryz.underlying24 rfl Tryz.sizeOf5 ya ya) ?_
   refine D_mem0 (i := 7) rfl yk yk rfl rfl yd (ov_load rfl rfl ye ⟨⟨⟨trivial, yn⟩, (tn ya ya)⟩, (tn ya ya)⟩ rfl rfl tok5) ?_
   refine D_mem0 (i := 8) rfl yk yk rfl rfl yd (ov_sub rfl rfl rfl ya) ?_
   refine D_oneV (i := 9) rfl yk rfl rfl yd xaay (OpX.v (ov_fieldAddr rfl rfl fa31_3 rfl)) ?_
   refine D_oneV (i := 10) rfl yk rfl rfl yd xaay (OpX.v (ov_indexAddr rfl rfl rfl Tryz.underlying25 rfl Tryz.sizeOf24 ya ya)) ?_
   refine D_oneV (i := 11) rfl yk rfl rfl yd xaay (OpX.v (ov_indexAddr rfl rfl rfl Tryz.underlying24 rfl Tryz.sizeOf5 ya ya)) ?_
   refine D_one (i := 12) rfl yk rfl trivial (ol_st0 rfl rfl rfl ⟨⟨⟨trivial, yn⟩, (tn ya ya)⟩, (tn ya ya)⟩ rfl yf tok5 ⟨xaay, ?_⟩)
   refine D_end yk ?_
   refine w2 (fun w0 => ?_)
   refine yL (ov_fieldAddr rfl rfl fa55_1 rfl) ?_
   refine yL (ov_load rfl rfl ye ⟨trivial, yn⟩ rfl rfl tok26) ?_
   refine yL (ov_fieldAddr rfl rfl fa31_4 rfl) ?_
   refine yL (ov_load rfl rfl ye ⟨trivial, yn⟩ rfl rfl tok5) ?_
   refine yL (ov_mul rfl rfl rfl ya) ?_
   refine yL (ov_fieldAddr rfl rfl fa55_3 rfl) ?_
   refine yL (ov_load rfl rfl ye ⟨trivial, yn⟩ rfl rfl tok5) ?_
   refine yL (ov_add rfl rfl rfl ya) ?_
   refine yL (ov_fieldAddr rfl rfl fa31_1 rfl) ?_
   refine yL (ov_indexAddr rfl rfl rfl Tryz.underlying22 rfl Tryz.sizeOf5 ya ya) ?_
   refine LO_l rfl trivial (ol_st0 rfl rfl rfl ⟨⟨trivial, yn⟩, (tn ya ya)⟩ rfl yf tok5 ?_)
   refine LO_nil (w2 (fun w0 => ?_))
   refine yL (ov_load rfl rfl ye trivial rfl rfl tok31) ?_
   refine LO_l rfl trivial (ol_sw1 rfl rfl rfl rfl yf tok31 ?_)
   refine LO_nil (W_ret ⟨trivial, yb, (ResV_cell rfl rfl ye rfl tok31 ?_)⟩)
   exact xbvy
  ·
   refine W_skip (W_cut [(3, ptrv b1 posT []), (4, ptrv b2 moveT []), (6, ptrv b3 posT []), (7, ptrv b4 posT []), (8, .int .u8 (pb p (mF m)))] (.box b4 31 posT (men1 p tk) :: .box b3 31 posT (zero posT) :: .box b2 55 moveT m :: .box b1 31 posT p :: M) ?_ ?_)
   ·
    refine w1 ((yM ?_))
    refine yR (ov_geq rfl rfl rfl) ?_
    refine RO_nil (W_cond rfl (fun hc3 => ?_) (fun hc3 => ?_))
    ·
     have htk0 : 0 ≤ tk := of_decide_eq_true hc3
     refine W_regl (fun w0 => ?_)
     refine zM ?_
     refine yL (ov_fieldAddr rfl rfl fa31_1 rfl) ?_
     refine yL (ov_indexAddr rfl rfl rfl Tryz.underlying22 rfl Tryz.sizeOf5 ya ya) ?_
     refine LO_l rfl trivial (ol_st0 rfl rfl rfl ⟨⟨trivial, yn⟩, (tn ya ya)⟩ rfl yf tok5 ?_)
     refine LO_nil ?_
     exact ⟨⟨rfl, rfl, rfl, rfl, rfl, trivial⟩, (by first | (rw [show men1 p tk = _ from if_pos hc3]; exact yb) | (rw [show men1 p tk = p from if_neg (Bool.eq_false_iff.1 hc3)]; exact yb))⟩
    ·
     refine W_skip ?_
     exact ⟨⟨rfl, rfl, rfl, rfl, rfl, trivial⟩, (by first | (rw [show men1 p tk = _ from if_pos hc3]; exact yb) | (rw [show men1 p tk = p from if_neg (Bool.eq_false_iff.1 hc3)]; exact yb))⟩
   ·
    refine w2 (fun w0 => ?_)
    refine yL (ov_fieldAddr rfl rfl fa55_0 rfl) ?_
    refine yL (ov_load rfl rfl ye ⟨trivial, yn⟩ rfl rfl tok26) ?_
    refine yL (ov_fieldAddr rfl rfl fa31_1 rfl) ?_
    refine yL (ov_indexAddr rfl rfl rfl Tryz.underlying22 rfl Tryz.sizeOf5 ya ya) ?_
    refine LO_l rfl trivial (ol_st0 rfl rfl rfl ⟨⟨trivial, yn⟩, (tn ya ya)⟩ rfl yf tok5 ?_)
    refine LO_nil (w2 (fun w0 => ?_))
    refine yL (ov_fieldAddr rfl rfl fa55_1 rfl) ?_
    refine yL (ov_load rfl rfl ye ⟨trivial, yn⟩ rfl rfl tok26) ?_
    refine zM ?_
    refine yL (ov_fieldAddr rfl rfl fa31_1 rfl) ?_
    refine yL (ov_indexAddr rfl rfl rfl Tryz.underlying22 rfl Tryz.sizeOf5 ya ya) ?_
    refine LO_l rfl trivial (ol_st0 rfl rfl rfl ⟨⟨trivial, yn⟩, (tn ya ya)⟩ rfl yf tok5 ?_)
    refine LO_nil (W_cut [(6, ptrv b3 posT []), (7, ptrv b4 posT [])] (.box b4 31 posT (men3r p (men2 (men1 p tk) p m) m) :: .box b3 31 posT (zero posT) :: .box b2 55 moveT m :: .box b1 31 posT p :: M) ?_ ?_)
    ·
     refine w1 ((yR (ov_fieldAddr rfl rfl fa55_2 rfl) ?_))
     refine yR (ov_load rfl rfl ye ⟨trivial, yn⟩ rfl rfl tok5) ?_
     refine yR (ov_neq rfl rfl rfl) ?_
     refine RO_nil (W_cond rfl (fun hc4 => ?_) (fun hc4 => ?_))
     ·
      refine W_regl (fun w0 => ?_)
      refine yL (ov_fieldAddr rfl rfl fa55_1 rfl) ?_
      refine yL (ov_load rfl rfl ye ⟨trivial, yn⟩ rfl rfl tok26) ?_
      refine yL (ov_fieldAddr rfl rfl fa31_4 rfl) ?_
      refine yL (ov_load rfl rfl ye ⟨trivial, yn⟩ rfl rfl tok5) ?_
      refine yL (ov_mul rfl rfl rfl ya) ?_
      refine yL (ov_fieldAddr rfl rfl fa55_2 rfl) ?_
      refine yL (ov_load rfl rfl ye ⟨trivial, yn⟩ rfl rfl tok5) ?_
      refine yL (ov_add rfl rfl rfl ya) ?_
      refine yL (ov_fieldAddr rfl rfl fa31_1 rfl) ?_
      refine yL (ov_indexAddr rfl rfl rfl Tryz.underlying22 rfl Tryz.sizeOf5 ya ya) ?_
      refine LO_l rfl trivial (ol_st0 rfl rfl rfl ⟨⟨trivial, yn⟩, (tn ya ya)⟩ rfl yf tok5 ?_)
      refine LO_nil ?_
      exact ⟨⟨rfl, rfl, trivial⟩, (by first | (rw [show men3r p (men2 (men1 p tk) p m) m = _ from if_pos hc4]; exact yb) | (rw [show men3r p (men2 (men1 p tk) p m) m = _ from if_neg (Bool.eq_false_iff.1 hc4)]; exact yb))⟩
     ·
      refine W_skip ?_
      exact ⟨⟨rfl, rfl, trivial⟩, (by first | (rw [show men3r p (men2 (men1 p tk) p m) m = _ from if_pos hc4]; exact yb) | (rw [show men3r p (men2 (men1 p tk) p m) m = _ from if_neg (Bool.eq_false_iff.1 hc4)]; exact yb))⟩
    ·
     have hw5 := (POK_men3r hp hm hL (POK_men2 (POK_men1 hp tk) hp m)).wf
     refine w2 (fun w0 => ?_)
     refine yL (ov_load rfl rfl ye trivial rfl rfl tok31) ?_
     refine LO_l rfl trivial (ol_sw1 rfl rfl rfl rfl yf tok31 ?_)
     refine LO_nil (W_ret ⟨trivial, yb, (ResV_cell rfl rfl ye rfl tok31 ?_)⟩)
     exact xbvy

theorem c_ref16_pocket (p : Pos) (hp : POK p) (q : Pos) (hq : POK q) (m : Mv) (hm : MOK m) (tk : Int) (M : List Fact) (hL : LMv p m) (htk : -1 ≤ tk ∧ tk < 64) : Pure Tryz.prog 120 [enc posT p, enc posT q, enc moveT m, .int .i64 tk] M (enc posT (pocketR p q m tk)) := by
 obtain ⟨hb, hpw, hvr, htu, hpg, hvr0, htu0⟩ := hp.head
 have hmF := hm.f
 have hmT := hm.t
 have hmP := hm.p
 have hmD := hm.d
 have hmF0 := hm.f
 have hmT0 := hm.t
 have hmP0 := hm.p
 have hmD0 := hm.d
 simp only [mF] at hmF0
 simp only [mT] at hmT0
 simp only [mP] at hmP0
 simp only [mD] at hmD0
 have ht := hL.t
 have ht2 := hL.t
 simp only [tu] at ht2
 have hF := hL.f
 have hF0 := hL.f
 simp only [mF] at hF0
 have hT := hL.to
 have hT0 := hL.to
 simp only [mT] at hT0
 have hmw := wf_move m
 have hqw := hq.wf
 have hgo := goR_rng (sideR p m)
 have hPm := hL.pr
 have hPm0 := hL.pr
 simp only [mP] at hPm0
 refine pure_of_W (n := 151) Tryz.func120 rfl rfl yn ?_
 refine w2 (fun w0 => ?_)
 refine LO_l rfl (by decide : 4 < 151) (ol_box (t := posT) rfl rfl rfl yf (fun b1 => ?_))
 refine LO_l rfl (by decide : 5 < 151) (ol_box (t := posT) rfl rfl rfl yf (fun b2 => ?_))
 refine LO_l rfl (by decide : 6 < 151) (ol_box (t := moveT) rfl rfl rfl yf (fun b3 => ?_))
 refine LO_l rfl (by decide : 8 < 151) (ol_alloc (t := posT) rfl tok31 yf (fun b4 => ?_))
 refine LO_nil (W_seq (w1 ((yR (ov_fieldAddr rfl rfl fa31_0 rfl) ?_))))
 refine yR (ov_load rfl rfl ye ⟨trivial, yn⟩ rfl rfl tok5) ?_
 refine yR (ov_neq rfl rfl rfl) ?_
 refine yM ?_
 refine yG (fun hg => OpX.v (ov_fieldAddr rfl rfl fa55_3 rfl)) ?_
 refine yG (fun hg => OpX.v (ov_load rfl (look_gv rfl (bq hg)) ye ⟨trivial, yn⟩ rfl rfl tok5)) ?_
 refine yG (fun hg => OpX.v (ov_neq rfl (look_gv rfl (bq hg)) rfl)) ?_
 refine yR (ov_or rfl rfl rfl rfl (fun h => bq h)) ?_
 refine RO_nil (W_cond rfl (fun hc1 => ?_) (fun hc1 => ?_))
 ·
  refine w2 (fun w0 => ?_)
  refine yL (ov_load rfl rfl ye trivial rfl rfl tok31) ?_
  refine LO_l rfl trivial (ol_sw0 rfl rfl rfl rfl yf tok31 ?_)
  refine LO_nil (W_ret ⟨trivial, yb, (ResV_cell rfl rfl ye rfl tok31 ?_)⟩)
  exact xbwy
 ·
  refine W_skip (W_seq (w1 ((yR (ov_fieldAddr rfl rfl fa55_4 rfl) ?_))))
  refine yR (ov_load rfl rfl ye ⟨trivial, yn⟩ rfl rfl tok4) ?_
  refine RO_nil (W_cond rfl (fun hc2 => ?_) (fun hc2 => ?_))
  ·
   refine w1 ((yR (ov_load rfl rfl ye trivial rfl rfl tok31) ?_))
   refine yR (ov_load rfl rfl ye trivial rfl rfl tok55) ?_
   refine yP (yV rfl rfl rfl Tryz.call173 (c_ref14_Side p hp m hm _)) ?_
   refine yA_ ?_
   refine RO_nil (w1 ((yM ?_)))
   refine yP (yV rfl rfl rfl Tryz.call174 (by apply c_ref14_Goals <;> exact yz)) ?_
   refine yM ?_
   refine yR (ov_extract rfl rfl rfl) ?_
   refine yR (ov_extract rfl rfl rfl) ?_
   refine yA_ ?_
   refine yA_ ?_
   refine RO_nil (W_seq (w1 ((yR (ov_fieldAddr rfl rfl fa31_2 rfl) ?_))))
   refine yR (ov_load rfl rfl ye ⟨trivial, yn⟩ rfl rfl tok23) ?_
   refine yR (ov_fieldAddr rfl rfl fa55_1 rfl) ?_
   refine yR (ov_load rfl rfl ye ⟨trivial, yn⟩ rfl rfl tok26) ?_
   refine yR (ov_convn rfl rfl Tryz.underlying26 Tryz.underlying3 ya) ?_
   refine yP (yV rfl rfl rfl Tryz.call122 (by apply c_ref16_Has <;> exact yz)) ?_
   refine RO_nil (W_cond rfl (fun hc3 => ?_) (fun hc3 => ?_))
   ·
    have hw4 : wf posT (setPm (setPm q (pm p &&& ~~~shlB (mT m))) ((pm p &&& ~~~shlB (mT m)) ||| shlB (56 * tu p + (goR (sideR p m)).2))) := (POK_setPm (POK_setPm hq _) _).wf
    refine w2 (fun w0 => ?_)
    refine yL (ov_fieldAddr rfl rfl fa31_2 rfl) ?_
    refine yL (ov_load rfl rfl ye ⟨trivial, yn⟩ rfl rfl tok23) ?_
    refine yL (ov_fieldAddr rfl rfl fa55_1 rfl) ?_
    refine yL (ov_load rfl rfl ye ⟨trivial, yn⟩ rfl rfl tok26) ?_
    refine yL (ov_conv64 rfl rfl Tryz.underlying26 Tryz.underlying111) ?_
    refine yL (ov_shl64 (a := 1#64) rfl rfl rfl ya) ?_
    refine yL (ov_bits rfl rfl rfl (.inr (.inr (.inr ⟨rfl, rfl⟩)))) ?_
    refine yL (ov_fieldAddr rfl rfl fa31_2 rfl) ?_
    refine LO_l rfl trivial (ol_st2 rfl rfl rfl ⟨trivial, yn⟩ rfl yf tok23 ?_)
    refine LO_nil (W_regl (fun w0 => ?_))
    refine yL (ov_fieldAddr rfl rfl fa31_2 rfl) ?_
    refine yL (ov_load rfl rfl ye ⟨trivial, yn⟩ rfl rfl tok23) ?_
    refine yL (ov_fieldAddr rfl rfl fa31_4 rfl) ?_
    refine yL (ov_load rfl rfl ye ⟨trivial, yn⟩ rfl rfl tok5) ?_
    refine yL (ov_convn rfl rfl Tryz.underlying5 Tryz.underlying3 ya) ?_
    refine yL (ov_mul rfl rfl rfl ya) ?_
    refine zM ?_
    refine yL (ov_add rfl rfl rfl ya) ?_
    refine yL (ov_conv64 rfl rfl Tryz.underlying3 Tryz.underlying111) ?_
    refine yL (ov_shl64 (a := 1#64) rfl rfl rfl ya) ?_
    refine yL (ov_bits rfl rfl rfl (.inr (.inl ⟨rfl, rfl⟩))) ?_
    refine yL (ov_fieldAddr rfl rfl fa31_2 rfl) ?_
    refine LO_l rfl trivial (ol_st2 rfl rfl rfl ⟨trivial, yn⟩ rfl yf tok23 ?_)
    refine LO_nil (w2 (fun w0 => ?_))
    refine yL (ov_load rfl rfl ye trivial rfl rfl tok31) ?_
    refine LO_l rfl trivial (ol_sw0 rfl rfl rfl rfl yf tok31 ?_)
    refine LO_nil (W_ret ⟨trivial, yb, (ResV_cell rfl rfl ye rfl tok31 ?_)⟩)
    exact xbwy
   ·
    refine W_skip (w2 (fun w0 => ?_))
    refine yL (ov_load rfl rfl ye trivial rfl rfl tok31) ?_
    refine LO_l rfl trivial (ol_sw0 rfl rfl rfl rfl yf tok31 ?_)
    refine LO_nil (W_ret ⟨trivial, yb, (ResV_cell rfl rfl ye rfl tok31 ?_)⟩)
    exact xbwy
  ·
   refine W_skip (W_cut [(3, .int .i64 tk), (4, ptrv b1 posT []), (5, ptrv b2 posT []), (6, ptrv b3 moveT []), (8, ptrv b4 posT [])] (.box b4 31 posT (zero posT) :: .box b3 55 moveT m :: .box b2 31 posT (pk2 p q tk) :: .box b1 31 posT p :: M) ?_ ?_)
   ·
    refine w1 ((yM ?_))
    refine yR (ov_geq rfl rfl rfl) ?_
    refine RO_nil (W_cond rfl (fun hc4 => ?_) (fun hc4 => ?_))
    ·
     have htk0 : 0 ≤ tk := of_decide_eq_true hc4
     have hkk := kind_rng (pb p tk)
     have hpk := pkt1_rng p tk
     have hpr := pkAt_rng hq (tu p) (pkt1 p tk)
     have hpr0 := hpr
     simp only [pkAt, pk, tu] at hpr0
     refine w1 ((yM ?_))
     refine yR (ov_fieldAddr rfl rfl fa31_1 rfl) ?_
     refine yR (ov_indexAddr rfl rfl rfl Tryz.underlying22 rfl Tryz.sizeOf5 ya ya) ?_
     refine yR (ov_load rfl rfl ye ⟨⟨trivial, yn⟩, (tn ya ya)⟩ rfl rfl tok5) ?_
     refine yP (yV rfl rfl rfl Tryz.call84 xany) ?_
     refine yA_ ?_
     refine RO_nil (W_cut [(3, .int .i64 tk), (4, ptrv b1 posT []), (5, ptrv b2 posT []), (6, ptrv b3 moveT []), (8, ptrv b4 posT []), (12, .int .u8 (pkt1 p tk))] (.box b4 31 posT (zero posT) :: .box b3 55 moveT m :: .box b2 31 posT q :: .box b1 31 posT p :: M) ?_ ?_)
     ·
      refine w1 ((yR (ov_fieldAddr rfl rfl fa31_2 rfl) ?_))
      refine yR (ov_load rfl rfl ye ⟨trivial, yn⟩ rfl rfl tok23) ?_
      refine yM ?_
      refine yP (yV rfl rfl rfl Tryz.call122 (by apply c_ref16_Has <;> exact yz)) ?_
      refine yM ?_
      refine gM ?_
      refine yG (fun hg => OpX.v (ov_fieldAddr rfl rfl fa31_1 rfl)) ?_
      refine yG (fun hg => OpX.v (ov_indexAddr rfl (look_gv rfl (bq hg)) (look_gv rfl (bq hg)) Tryz.underlying22 rfl Tryz.sizeOf5 ya ya)) ?_
      refine yG (fun hg => OpX.v (ov_load rfl (look_gv rfl (bq hg)) ye ⟨⟨trivial, yn⟩, (tn ya ya)⟩ rfl rfl tok5)) ?_
      refine yG (fun hg => OpX.v (ov_neq rfl (look_gv rfl (bq hg)) rfl)) ?_
      refine yR (ov_and rfl rfl rfl rfl (fun h => bq h)) ?_
      refine RO_nil (W_cond rfl (fun hc5 => ?_) (fun hc5 => ?_))
      ·
       refine W_reg (yA_ ?_)
       refine RO_nil ?_
       exact ⟨⟨rfl, rfl, rfl, rfl, rfl, (by first | exact congrArg some (val_u8 (show (pkt1 p tk) = _ from if_pos hc5).symm) | exact congrArg some (val_u8 (show (pkt1 p tk) = _ from if_neg (Bool.eq_false_iff.1 hc5)).symm)), trivial⟩, yb⟩
      ·
       refine W_skip ?_
       exact ⟨⟨rfl, rfl, rfl, rfl, rfl, (by first | exact congrArg some (val_u8 (show (pkt1 p tk) = _ from if_pos hc5).symm) | exact congrArg some (val_u8 (show (pkt1 p tk) = _ from if_neg (Bool.eq_false_iff.1 hc5)).symm)), trivial⟩, yb⟩
     ·
      refine w1 ((yM ?_))
      refine yR (ov_geq rfl rfl rfl) ?_
      refine yM ?_
      refine gM ?_
      refine yG (fun hg => OpX.v (ov_leq rfl (look_gv rfl (bq hg)) rfl)) ?_
      refine yR (ov_and rfl rfl rfl rfl (fun h => bq h)) ?_
      refine yM ?_
      refine yG (fun hg => OpX.v (ov_fieldAddr rfl rfl fa31_4 rfl)) ?_
      refine yG (fun hg => OpX.v (ov_load rfl (look_gv rfl (bq hg)) ye ⟨trivial, yn⟩ rfl rfl tok5)) ?_
      refine gM ?_
      refine yG (fun hg => OpX.v (ov_fieldAddr rfl rfl fa31_3 rfl)) ?_
      refine RO_g1 rfl rfl rfl rfl rfl yd (fun hg => by have hgx := hg; (try simp only [yS] at hgx); exact OpX.v (ov_indexAddr rfl (look_gv rfl (bq hg)) (look_gv rfl (bq hg)) Tryz.underlying25 rfl Tryz.sizeOf24 ya ya)) ?_
      refine RO_g1 rfl rfl rfl rfl rfl yd (fun hg => by have hgx := hg; (try simp only [yS] at hgx); exact OpX.v (ov_indexAddr rfl (look_gv rfl (bq hg)) (look_gv rfl (bq hg)) Tryz.underlying24 rfl Tryz.sizeOf5 ya ya)) ?_
      refine RO_g1 rfl rfl rfl rfl rfl yd (fun hg => by have hgx := hg; (try simp only [yS] at hgx); exact OpX.v (ov_load rfl (look_gv rfl (bq hg)) ye ⟨⟨⟨trivial, yn⟩, (tn ya ya)⟩, (tn ya ya)⟩ rfl rfl tok5)) ?_
      refine yG (fun hg => OpX.v (ov_lss rfl (look_gv rfl (bq hg)) rfl)) ?_
      refine yR (ov_and rfl rfl rfl rfl (fun h => bq h)) ?_
      refine RO_nil (W_cond rfl (fun hc6 => ?_) (fun hc6 => ?_))
      ·
       have hk6 := hc6
       simp only [yS] at hk6
       refine W_regD (fun i => !Nat.beq i 11) mixed (fun w0 => ?_)
       refine D_mem0 (i := 0) rfl yk yk rfl rfl yd (ov_fieldAddr rfl rfl fa31_4 rfl) ?_
       refine D_mem0 (i := 1) rfl yk yk rfl rfl yd (ov_load rfl rfl ye ⟨trivial, yn⟩ rfl rfl tok5) ?_
       refine D_mem0 (i := 2) rfl yk yk rfl rfl yd (ov_move rfl rfl) ?_
       refine D_mem0 (i := 3) rfl yk yk rfl rfl yd (ov_fieldAddr rfl rfl fa31_3 rfl) ?_
       refine D_mem0 (i := 4) rfl yk yk rfl rfl yd (ov_indexAddr rfl rfl rfl Tryz.underlying25 rfl Tryz.sizeOf24 ya ya) ?_
       refine D_mem0 (i := 5) rfl yk yk rfl rfl yd (ov_indexAddr rfl rfl rfl Tryz.underlying24 rfl Tryz.sizeOf5 ya ya) ?_
       refine D_mem0 (i := 6) rfl yk yk rfl rfl yd (ov_load rfl rfl ye ⟨⟨⟨trivial, yn⟩, (tn ya ya)⟩, (tn ya ya)⟩ rfl rfl tok5) ?_
       refine D_mem0 (i := 7) rfl yk yk rfl rfl yd (ov_add rfl rfl rfl ya) ?_
       refine D_oneV (i := 8) rfl yk rfl rfl yd xaay (OpX.v (ov_fieldAddr rfl rfl fa31_3 rfl)) ?_
       refine D_oneV (i := 9) rfl yk rfl rfl yd xaay (OpX.v (ov_indexAddr rfl rfl rfl Tryz.underlying25 rfl Tryz.sizeOf24 ya ya)) ?_
       refine D_oneV (i := 10) rfl yk rfl rfl yd xaay (OpX.v (ov_indexAddr rfl rfl rfl Tryz.underlying24 rfl Tryz.sizeOf5 ya ya)) ?_
       refine D_one (i := 11) rfl yk rfl trivial (ol_st2 rfl rfl rfl ⟨⟨⟨trivial, yn⟩, (tn ya ya)⟩, (tn ya ya)⟩ rfl yf tok5 ⟨xaay, ?_⟩)
       refine D_end yk ?_
       exact ⟨⟨rfl, rfl, rfl, rfl, rfl, trivial⟩, xaoy⟩
      ·
       refine W_skip ?_
       exact ⟨⟨rfl, rfl, rfl, rfl, rfl, trivial⟩, xaoy⟩
    ·
     refine W_skip ?_
     exact ⟨⟨rfl, rfl, rfl, rfl, rfl, trivial⟩, xaoy⟩
   ·
    refine w1 ((yR (ov_assign (v := u64v 0#64) rfl rfl) ?_))
    refine RO_nil (W_seq (w1 ((yA_ ?_))))
    refine RO_nil (W_block (W_loop (σ := Nat) (fun i => i ≤ 64) (fun i => [(3, .int .i64 tk), (4, ptrv b1 posT []), (5, ptrv b2 posT []), (6, ptrv b3 moveT []), (8, ptrv b4 posT []), (13, u64v (setOf (markF p m tk) i)), (14, .int .i64 (i : Int))]) (fun i => .box b4 31 posT (zero posT) :: .box b3 55 moveT _ :: .box b2 31 posT _ :: .box b1 31 posT _ :: M) (fun i => 64 - i) (0) yo ⟨rfl, rfl, rfl, rfl, rfl, rfl, rfl, trivial⟩ yb ?_))
    rintro i hI
    refine W_seq (w1 ((yM ?_)))
    refine yR (ov_lss rfl rfl rfl) ?_
    refine RO_nil (W_cond rfl (fun hc7 => ?_) (fun hc7 => ?_))
    ·
     try simp only [yS] at hc7
     refine W_skip (W_seq (W_block (w1 ((yR (ov_fieldAddr rfl rfl fa31_2 rfl) ?_)))))
     refine yR (ov_load rfl rfl ye ⟨trivial, yn⟩ rfl rfl tok23) ?_
     refine yM ?_
     refine yP (yV rfl rfl rfl Tryz.call122 (by apply c_ref16_Has <;> exact yz)) ?_
     refine yM ?_
     refine gM ?_
     refine gM ?_
     refine yG (fun hg => OpX.v (ov_neq rfl (look_gv rfl (bq hg)) (look_gv rfl (bq hg)))) ?_
     refine yR (ov_and rfl rfl rfl rfl (fun h => bq h)) ?_
     refine yM ?_
     refine gM ?_
     refine yG (fun hg => OpX.v (ov_fieldAddr rfl rfl fa55_0 rfl)) ?_
     refine yG (fun hg => OpX.v (ov_load rfl (look_gv rfl (bq hg)) ye ⟨trivial, yn⟩ rfl rfl tok26)) ?_
     refine yG (fun hg => OpX.v (ov_convn rfl (look_gv rfl (bq hg)) Tryz.underlying26 Tryz.underlying3 ya)) ?_
     refine yG (fun hg => OpX.v (ov_neq rfl (look_gv rfl (bq hg)) (look_gv rfl (bq hg)))) ?_
     refine yR (ov_and rfl rfl rfl rfl (fun h => bq h)) ?_
     refine RO_nil (W_cond rfl (fun hc8 => ?_) (fun hc8 => ?_))
     ·
      refine W_reg (yM ?_)
      refine yM ?_
      refine yR (ov_conv64 rfl rfl Tryz.underlying3 Tryz.underlying111) ?_
      refine yR (ov_shl64 (a := 1#64) rfl rfl rfl ya) ?_
      refine yR (ov_bits rfl rfl rfl (.inr (.inl ⟨rfl, rfl⟩))) ?_
      refine yA_ ?_
      refine RO_nil (W_reg (yM ?_))
      refine yR (ov_add rfl rfl rfl ya) ?_
      refine yA_ ?_
      refine RO_nil ?_
      exact ⟨i + 1, yo, yo, ⟨rfl, rfl, rfl, rfl, rfl, congrArg some (val_u64 (by first | rw [setOf_t (show markF p m tk i = true from hc8), bit_nat i yo] | rw [setOf_f (show markF p m tk i = false from hc8)])), rfl, trivial⟩, yb⟩
     ·
      refine W_skip (W_reg (yM ?_))
      refine yR (ov_add rfl rfl rfl ya) ?_
      refine yA_ ?_
      refine RO_nil ?_
      exact ⟨i + 1, yo, yo, ⟨rfl, rfl, rfl, rfl, rfl, congrArg some (val_u64 (by first | rw [setOf_t (show markF p m tk i = true from hc8), bit_nat i yo] | rw [setOf_f (show markF p m tk i = false from hc8)])), rfl, trivial⟩, yb⟩
    ·
     try simp only [yS] at hc7
     refine W_exit (W_cut [(5, ptrv b2 posT []), (8, ptrv b4 posT []), (13, u64v (mk2 p m tk))] (.box b4 31 posT (zero posT) :: .box b3 55 moveT m :: .box b2 31 posT (pk2 p q tk) :: .box b1 31 posT p :: M) ?_ ?_)
     ·
      refine w1 ((yR (ov_fieldAddr rfl rfl fa55_2 rfl) ?_))
      refine yR (ov_load rfl rfl ye ⟨trivial, yn⟩ rfl rfl tok5) ?_
      refine yR (ov_neq rfl rfl rfl) ?_
      refine yM ?_
      refine yG (fun hg => OpX.v (ov_fieldAddr rfl rfl fa31_2 rfl)) ?_
      refine yG (fun hg => OpX.v (ov_load rfl (look_gv rfl (bq hg)) ye ⟨trivial, yn⟩ rfl rfl tok23)) ?_
      refine yG (fun hg => OpX.v (ov_fieldAddr rfl rfl fa55_0 rfl)) ?_
      refine yG (fun hg => OpX.v (ov_load rfl (look_gv rfl (bq hg)) ye ⟨trivial, yn⟩ rfl rfl tok26)) ?_
      refine yG (fun hg => OpX.v (ov_convn rfl (look_gv rfl (bq hg)) Tryz.underlying26 Tryz.underlying3 ya)) ?_
      refine yG (fun hg => yV rfl rfl (looks_cons (look_gv rfl (bq hg)) (looks_cons (look_gv rfl (bq hg)) looks_nil)) Tryz.call122 (by apply c_ref16_Has <;> exact yz)) ?_
      refine yR (ov_or rfl rfl rfl rfl (fun h => bq h)) ?_
      refine RO_nil (W_cond rfl (fun hc9 => ?_) (fun hc9 => ?_))
      ·
       refine W_reg (yM ?_)
       refine yR (ov_fieldAddr rfl rfl fa55_1 rfl) ?_
       refine yR (ov_load rfl rfl ye ⟨trivial, yn⟩ rfl rfl tok26) ?_
       refine yR (ov_conv64 rfl rfl Tryz.underlying26 Tryz.underlying111) ?_
       refine yR (ov_shl64 (a := 1#64) rfl rfl rfl ya) ?_
       refine yR (ov_bits rfl rfl rfl (.inr (.inl ⟨rfl, rfl⟩))) ?_
       refine yA_ ?_
       refine RO_nil ?_
       exact ⟨⟨rfl, rfl, (by rw [show i = 64 by omega]; first | exact congrArg some (val_u64 (show mk2 p m tk = _ from if_pos hc9).symm) | exact congrArg some (val_u64 (show mk2 p m tk = _ from if_neg (Bool.eq_false_iff.1 hc9)).symm)), trivial⟩, yb⟩
      ·
       refine W_skip ?_
       exact ⟨⟨rfl, rfl, (by rw [show i = 64 by omega]; first | exact congrArg some (val_u64 (show mk2 p m tk = _ from if_pos hc9).symm) | exact congrArg some (val_u64 (show mk2 p m tk = _ from if_neg (Bool.eq_false_iff.1 hc9)).symm)), trivial⟩, yb⟩
     ·
      have hw5 : wf posT (setPm (pk2 p q tk) (mk2 p m tk)) := (POK_setPm (POK_pk2 hq tk) _).wf
      refine w2 (fun w0 => ?_)
      refine zM ?_
      refine yL (ov_fieldAddr rfl rfl fa31_2 rfl) ?_
      refine LO_l rfl trivial (ol_st2 rfl rfl rfl ⟨trivial, yn⟩ rfl yf tok23 ?_)
      refine LO_nil (w2 (fun w0 => ?_))
      refine yL (ov_load rfl rfl ye trivial rfl rfl tok31) ?_
      refine LO_l rfl trivial (ol_sw0 rfl rfl rfl rfl yf tok31 ?_)
      refine LO_nil (W_ret ⟨trivial, yb, (ResV_cell rfl rfl ye rfl tok31 ?_)⟩)
      exact xbwy

theorem c_ref16_Blown (p : Pos) (hp : POK p) (s : Int) (M : List Fact) (h0 : 0 ≤ s) (h1 : s < 64) : Pure Tryz.prog 121 [enc posT p, .int .i64 s] M (u64v (blownR p s)) := by
 obtain ⟨hb, hpw, hvr, htu, hpg, hvr0, htu0⟩ := hp.head
 refine pure_of_W (n := 47) Tryz.func121 rfl rfl yn ?_
 refine w2 (fun w0 => ?_)
 refine LO_l rfl (by decide : 2 < 47) (ol_box (t := posT) rfl rfl rfl yf (fun b1 => ?_))
 refine yL (ov_assign (v := u64v 0#64) rfl rfl) ?_
 refine LO_nil (w1 ((yR (ov_assign (v := u64v 0#64) rfl rfl) ?_)))
 refine RO_nil (W_seq (w1 ((yA_ ?_))))
 refine RO_nil (W_block (W_loop (σ := Nat) (fun i => i ≤ 64) (fun i => [(1, .int .i64 s), (2, ptrv b1 posT []), (5, u64v (setOf (blF p s) i)), (6, .int .i64 (i : Int))]) (fun i => .box b1 31 posT _ :: M) (fun i => 64 - i) (0) yo ⟨rfl, rfl, rfl, rfl, trivial⟩ yb ?_))
 rintro i hI
 refine W_seq (w1 ((yM ?_)))
 refine yR (ov_lss rfl rfl rfl) ?_
 refine yM ?_
 refine gM ?_
 refine yG (fun hg => OpX.v (ov_geq rfl (look_gv rfl (bq hg)) rfl)) ?_
 refine yR (ov_and rfl rfl rfl rfl (fun h => bq h)) ?_
 refine yM ?_
 refine gM ?_
 refine yG (fun hg => OpX.v (ov_lss rfl (look_gv rfl (bq hg)) rfl)) ?_
 refine yR (ov_and rfl rfl rfl rfl (fun h => bq h)) ?_
 refine RO_nil (W_cond rfl (fun hc1 => ?_) (fun hc1 => ?_))
 ·
  have hi64 : i < 64 := by have := of_decide_eq_true (Bool.and_eq_true_iff.1 (Bool.and_eq_true_iff.1 hc1).1).1; omega
  refine W_skip (W_seq (W_block (w1 ((yM ?_)))))
  refine yR (ov_fieldAddr rfl rfl fa31_1 rfl) ?_
  refine yR (ov_indexAddr rfl rfl rfl Tryz.underlying22 rfl Tryz.sizeOf5 ya ya) ?_
  refine yR (ov_load rfl rfl ye ⟨⟨trivial, yn⟩, (tn ya ya)⟩ rfl rfl tok5) ?_
  refine yP (yV rfl rfl rfl Tryz.call84 xany) ?_
  refine yA_ ?_
  refine RO_nil (w1 ((yM ?_)))
  refine yM ?_
  refine yR (ov_eql rfl rfl rfl) ?_
  refine yM ?_
  refine gM ?_
  refine gM ?_
  refine yG (fun hg => yV rfl rfl (looks_cons (look_gv rfl (bq hg)) (looks_cons (look_gv rfl (bq hg)) looks_nil)) Tryz.call151 (by apply c_ref08_Beside <;> exact yz)) ?_
  refine yG (fun hg => OpX.v (ov_move rfl (look_gv rfl (bq hg)))) ?_
  refine RO_g rfl rfl rfl rfl rfl yd (fun hg1 hg2 => OpX.v (ov_move rfl rfl)) ?_
  refine RO_g rfl rfl rfl rfl rfl yd (fun hg1 hg2 => OpX.v (ov_neq rfl (look_gv rfl (bq2 hg1 hg2)) rfl)) ?_
  refine yG (fun hg => OpX.v (ov_and rfl (look_gv rfl (bq hg)) rfl rfl (fun h => bq2 (bq hg) h))) ?_
  refine yG (fun hg => OpX.v (ov_move rfl (look_gv rfl (bq hg)))) ?_
  refine RO_g rfl rfl rfl rfl rfl yd (fun hg1 hg2 => OpX.v (ov_move rfl rfl)) ?_
  refine RO_g rfl rfl rfl rfl rfl yd (fun hg1 hg2 => OpX.v (ov_neq rfl (look_gv rfl (bq2 hg1 hg2)) rfl)) ?_
  refine yG (fun hg => OpX.v (ov_and rfl (look_gv rfl (bq hg)) rfl rfl (fun h => bq2 (bq hg) h))) ?_
  refine yR (ov_or rfl rfl rfl rfl (fun h => bq h)) ?_
  refine RO_nil (W_cond rfl (fun hc2 => ?_) (fun hc2 => ?_))
  ·
   refine W_reg (yM ?_)
   refine yM ?_
   refine yR (ov_conv64 rfl rfl Tryz.underlying3 Tryz.underlying111) ?_
   refine yR (ov_shl64 (a := 1#64) rfl rfl rfl ya) ?_
   refine yR (ov_bits rfl rfl rfl (.inr (.inl ⟨rfl, rfl⟩))) ?_
   refine yA_ ?_
   refine RO_nil (W_reg (yM ?_))
   refine yR (ov_add rfl rfl rfl ya) ?_
   refine yA_ ?_
   refine RO_nil ?_
   exact ⟨i + 1, yo, yo, ⟨rfl, rfl, congrArg some (val_u64 (by first | rw [setOf_t (show blF p s i = true from hc2), bit_nat i hi64] | rw [setOf_f (show blF p s i = false from hc2)])), rfl, trivial⟩, yb⟩
  ·
   refine W_skip (W_reg (yM ?_))
   refine yR (ov_add rfl rfl rfl ya) ?_
   refine yA_ ?_
   refine RO_nil ?_
   exact ⟨i + 1, yo, yo, ⟨rfl, rfl, congrArg some (val_u64 (by first | rw [setOf_t (show blF p s i = true from hc2), bit_nat i hi64] | rw [setOf_f (show blF p s i = false from hc2)])), rfl, trivial⟩, yb⟩
 ·
  have hi64 : i = 64 := by (have hx := hc1; simp only [Bool.and_eq_false_iff, decide_eq_false_iff_not] at hx; omega)
  refine W_exit (w1 ((yM ?_)))
  refine yA_ ?_
  refine RO_nil (W_ret ⟨trivial, yb, (ResV_tmp1 rfl rfl ?_)⟩)
  exact val_u64 (by rw [hi64]; rfl)
end Go.Kw
set_option linter.unusedVariables false
namespace Go.Kw
open Go.Proofs


theorem val_i8 {a b : Int} (h : a = b) : Value.int .i8 a = .int .i8 b := by rw [h]
def rr1 (p q : Pos) (m : Mv) : Pos := if (decide (mD m = 0) && decide (kind (pb p (mF m)) = 6)) = true then setRkR q (tu p) ([-1, -1] : List Int) else q
theorem POK_rr1 {p q : Pos} (hq : POK q) (m : Mv) : POK (rr1 p q m) := by
  unfold rr1; split
  · refine POK_setRkR hq _ rfl fun k => ?_
    match k with
    | 0 => exact ⟨by decide, by decide⟩
    | 1 => exact ⟨by decide, by decide⟩
    | k + 2 => exact ⟨by show (-128 : Int) ≤ 0; decide, by show (0 : Int) ≤ 127; decide⟩
  · exact hq
def goneR (m : Mv) (tk : Int) (q : Pos) (c king f : Int) : Bool := ((((decide (king < 56 * c) || decide (56 * c + 7 < king)) || !isAt q (56 * c + f) c 4) || decide (tk = 56 * c + f)) || (decide (mD m = 0) && decide (mF m = 56 * c + f)))
def rrSide (m : Mv) (tk : Int) (c king : Int) (q : Pos) (j : Nat) : Pos :=
  if (decide (rkAt q c (j : Int) < 0) || decide (7 < rkAt q c (j : Int))) = true then q
  else if goneR m tk q c king (rkAt q c (j : Int)) = true then setRk q c (j : Int) (-1) else q
def rrJ (m : Mv) (tk : Int) (q : Pos) (c : Int) : Nat → Pos
  | 0 => q
  | j + 1 => rrSide m tk c (find q c 6) (rrJ m tk q c j) j
def rrC (m : Mv) (tk : Int) (q : Pos) : Nat → Pos
  | 0 => q
  | n + 1 => rrJ m tk (rrC m tk q n) (n : Int) 2
def rightsR (p q : Pos) (m : Mv) (tk : Int) : Pos := rrC m tk (rr1 p q m) 2
theorem rrC_next (m : Mv) (tk : Int) (q : Pos) {i j : Nat} (h : j = 2) : rrC m tk q (i + 1) = rrJ m tk (rrC m tk q i) (i : Int) j := by subst h; rfl
theorem rrJ_a (m : Mv) (tk : Int) (q : Pos) (c : Int) {j : Nat} (h : (decide (rkAt (rrJ m tk q c j) c (j : Int) < 0) || decide (7 < rkAt (rrJ m tk q c j) c (j : Int))) = true) : rrJ m tk q c (j + 1) = rrJ m tk q c j := by
  rw [rrJ, rrSide, if_pos h]
theorem rrJ_b (m : Mv) (tk : Int) (q : Pos) (c : Int) {j : Nat} (h : (decide (rkAt (rrJ m tk q c j) c (j : Int) < 0) || decide (7 < rkAt (rrJ m tk q c j) c (j : Int))) = false)
    (h2 : goneR m tk (rrJ m tk q c j) c (find q c 6) (rkAt (rrJ m tk q c j) c (j : Int)) = true) : rrJ m tk q c (j + 1) = setRk (rrJ m tk q c j) c (j : Int) (-1) := by
  rw [rrJ, rrSide, if_neg xasy, if_pos h2]
theorem rrJ_c (m : Mv) (tk : Int) (q : Pos) (c : Int) {j : Nat} (h : (decide (rkAt (rrJ m tk q c j) c (j : Int) < 0) || decide (7 < rkAt (rrJ m tk q c j) c (j : Int))) = false)
    (h2 : goneR m tk (rrJ m tk q c j) c (find q c 6) (rkAt (rrJ m tk q c j) c (j : Int)) = false) : rrJ m tk q c (j + 1) = rrJ m tk q c j := by
  rw [rrJ, rrSide, if_neg xasy, if_neg (by rw [h2]; simp)]
theorem POK_rrJ {q : Pos} (hq : POK q) (m : Mv) (tk : Int) (c : Int) : ∀ j, POK (rrJ m tk q c j)
  | 0 => hq
  | j + 1 => by
    have ih := POK_rrJ hq m tk c j
    rw [rrJ, rrSide]
    split
    · exact ih
    · split
      · exact POK_setRk ih c j yd yd
      · exact ih
theorem POK_rrC {q : Pos} (hq : POK q) (m : Mv) (tk : Int) : ∀ n, n ≤ 2 → POK (rrC m tk q n)
  | 0, _ => hq
  | n + 1, h => POK_rrJ (POK_rrC hq m tk n yo) m tk n 2
theorem POK_rightsR {p q : Pos} (hq : POK q) (m : Mv) (tk : Int) : POK (rightsR p q m tk) := POK_rrC (POK_rr1 hq m) m tk 2 (Nat.le_refl _)
def passF (p q : Pos) (m : Mv) (i : Nat) : Bool := isAt q (i : Int) (1 - tu p) 1 && hits q (i : Int) (mF m + upR (tu p))
def passR (p q : Pos) (m : Mv) : Int :=
  if ((!decide (mD m = 0) || mC m) || !decide (kind (pb p (mF m)) = 1)) = true then -1
  else if (!decide (mT m = mF m + 2 * upR (tu p)) || !decide (rankR (tu p) (mF m) = 1)) = true then -1
  else if okTo (passF p q m) 64 = true then -1 else mF m + upR (tu p)
theorem pass_to {p : Pos} {m : Mv} (h : (!decide (mT m = mF m + 2 * upR (tu p)) || !decide (rankR (tu p) (mF m) = 1)) = false) : mT m = mF m + 2 * upR (tu p) := by
  have := (Bool.or_eq_false_iff.1 h).1
  simpa using this
theorem passR_rng (p q : Pos) (m : Mv) (hL : LMv p m) : -128 ≤ passR p q m ∧ passR p q m ≤ 127 := by
  have h1 := hL.f
  have h2 := upR_val (tu p)
  unfold passR; (repeat split) <;> omega
theorem isR_may {p : Pos} {m : Mv} (h : isR p m = true) : mayR p (mF m) (mT m) = true := by
  unfold isR at h
  cases e : chR p m with
  | true => rw [if_pos e] at h; cases h
  | false =>
    have := (Bool.or_eq_false_iff.1 e).2
    simpa using this
theorem own_tu {p : Pos} {a c : Int} (h : ownR p a c = true) : pb p a / 8 = c := of_decide_eq_true (Bool.and_eq_true_iff.1 h).2
theorem may_own {p : Pos} {a b : Int} (h : mayR p a b = true) : ownR p a (tu p) = true ∧ ownR p b (tu p) = false ∧ ¬ a = b := by
  unfold mayR at h
  cases e : ((decide (a = b) || !ownR p a (tu p)) || ownR p b (tu p)) with
  | true => rw [if_pos e] at h; cases h
  | false =>
    obtain ⟨e1, e2⟩ := Bool.or_eq_false_iff.1 e
    obtain ⟨e3, e4⟩ := Bool.or_eq_false_iff.1 e1
    exact ⟨by simpa using e4, e2, of_decide_eq_false e3⟩
theorem may_pawn_is {p : Pos} {a b : Int} (h : mayR p a b = true) (hk : kind (pb p a) = 1) : pawnR p a b = true := by
  unfold mayR at h
  split at h
  · cases h
  · rw [if_pos (decide_eq_true hk)] at h; exact h
theorem hits_pawn {p : Pos} {a b : Int} (hk : kind (pb p a) = 1) (h : hits p a b = true) : upOf a b = (if pb p a / 8 = 0 then 1 else -1) ∧ asideOf a b = 1 := by
  unfold hits at h
  rw [if_pos hk] at h
  split at h
  · rename_i h0
    rw [if_pos h0]
    simpa using h
  · rename_i h0
    rw [if_neg h0]
    simpa using h
theorem pawn_straight {p : Pos} {a b : Int} (h : pawnR p a b = true) (hh : hits p a b = false) : b = a + upR (tu p) ∨ b = a + 2 * upR (tu p) := by
  unfold pawnR at h
  rw [if_neg (by rw [hh]; simp)] at h
  split at h
  · rename_i h1; exact .inl (of_decide_eq_true h1)
  · simp only [Bool.and_eq_true, decide_eq_true_eq] at h; exact .inr h.1.1.1
theorem may_pawn {p : Pos} {a b : Int} (h : mayR p a b = true) (hk : kind (pb p a) = 1) (h8 : ¬ a % 8 = b % 8) (h0 : 0 ≤ a) (h1 : a < 64) (h2 : 0 ≤ b) (h3 : b < 64) : b / 8 - a / 8 = if tu p = 0 then 1 else -1 := by
  have ho := own_tu (may_own h).1
  have hp := may_pawn_is h hk
  cases hh : hits p a b with
  | true =>
    have := (hits_pawn hk hh).1
    rw [ho] at this; exact this
  | false =>
    have h4 := pawn_straight hp hh
    have h5 := upR_val (tu p)
    omega
theorem takenR_rng {p : Pos} (hp : POK p) (m : Mv) : -1 ≤ takenR p m ∧ takenR p m < 64 := by
  unfold takenR
  split
  · exact ⟨by decide, by decide⟩
  · rename_i h
    have hi := isR_rng (p := p) (m := m) (by simpa using h)
    split
    · omega
    · split
      · rename_i hk
        obtain ⟨k1, k2⟩ := Bool.and_eq_true_iff.1 hk
        have k3 : ¬ mF m % 8 = mT m % 8 := ndec k2
        have hmay := isR_may (p := p) (m := m) (by simpa using h)
        have hg := may_pawn hmay (of_decide_eq_true k1) k3 hi.1 hi.2.1 hi.2.2.1 hi.2.2.2.1
        unfold upR; split <;> omega
      · exact ⟨by decide, by decide⟩
def blowTo (q : Pos) (b : BitVec 64) : Nat → Pos
  | 0 => q
  | n + 1 => if bitAt b (n : Int) = true then putB (blowTo q b n) (n : Int) 0 else blowTo q b n
theorem blow_yes {q : Pos} {b : BitVec 64} {i : Nat} (h : bitAt b (i : Int) = true) : blowTo q b (i + 1) = putB (blowTo q b i) (i : Int) 0 := by rw [blowTo, if_pos h]
theorem blow_no {q : Pos} {b : BitVec 64} {i : Nat} (h : bitAt b (i : Int) = false) : blowTo q b (i + 1) = blowTo q b i := by rw [blowTo, if_neg xasy]
theorem POK_blowTo {q : Pos} (hq : POK q) (b : BitVec 64) : ∀ n, POK (blowTo q b n)
  | 0 => hq
  | n + 1 => by
    rw [blowTo]; split
    · exact POK_put (POK_blowTo hq b n) _ yd yd
    · exact POK_blowTo hq b n
theorem POK_menR {p : Pos} {m : Mv} (hp : POK p) (hm : MOK m) (hL : LMv p m) (tk : Int) : POK (menR p m tk) := by
  unfold menR
  split
  · exact POK_putP (POK_putP (POK_put (POK_put hp _ yd yd) _ yd yd) _ hp _) _ hp _
  · split
    · rename_i hd
      have hD := hL.d (ndec hd)
      have hr := pkAt_rng hp (tu p) (mD m)
      have h1 := hp.tu
      have h2 := hL.t
      exact POK_put (POK_setPk hp _ _ yo yo) _ yo yo
    · exact POK_men3r hp hm hL (POK_men2 (POK_men1 hp tk) hp m)
theorem POK_pocketR {p q : Pos} (hq : POK q) (m : Mv) (tk : Int) : POK (pocketR p q m tk) := by
  unfold pocketR
  split
  · exact hq
  · split
    · split
      · exact POK_setPm (POK_setPm hq _) _
      · exact hq
    · exact POK_setPm (POK_pk2 hq tk) _
def md2 (p : Pos) (m : Mv) : Pos := pocketR p (menR p m (takenR p m)) m (takenR p m)
def md3 (p : Pos) (m : Mv) : Pos := if (decide (vr p = 3) && decide (0 ≤ takenR p m)) = true then blowTo (md2 p m) (blownR (md2 p m) (mT m)) 64 else md2 p m
def md4 (p : Pos) (m : Mv) : Pos := rightsR p (md3 p m) m (takenR p m)
def md5 (p : Pos) (m : Mv) (q : Pos) : Pos := setPg q (passR p q m)
def pawnM (p : Pos) (m : Mv) : Bool := decide (mD m = 1) || (decide (mD m = 0) && decide (kind (pb p (mF m)) = 1))
def md7 (p : Pos) (m : Mv) (q : Pos) : Pos := if (pawnM p m || decide (0 ≤ takenR p m)) = true then setHf (setHf (md5 p m q) (moreP (hf p))) 0 else setHf (md5 p m q) (moreP (hf p))
def md8 (p : Pos) (m : Mv) (q : Pos) : Pos := if decide (tu p = 1) = true then setFl (md7 p m q) (moreP (fl p)) else md7 p m q
def md9 (p : Pos) (m : Mv) (q : Pos) : Pos := setTu (md8 p m q) (1 - tu p)
def mdE (p : Pos) (q : Pos) : Pos := if ((decide (vr q = 5) && decide (ckAt q (tu p) < 3)) && refCheck q (tu q)) = true then setCk q (tu p) (ckAt q (tu p) + 1) else q
def madeR (p : Pos) (m : Mv) : Pos := mdE p (md9 p m (md4 p m))
section
variable {p : Pos} {m : Mv} (hp : POK p)
include hp
theorem POK_md3 (hm : MOK m) (hL : LMv p m) : POK (md3 p m) := by
  have h : POK (md2 p m) := POK_pocketR (POK_menR hp hm hL _) m _
  unfold md3; split
  · exact POK_blowTo h _ 64
  · exact h
variable {q : Pos} (hL : LMv p m)
include hL
theorem POK_md5 (hq : POK q) : POK (md5 p m q) := by
  have h := passR_rng p q m hL
  exact POK_setPg hq h.1 h.2
theorem POK_md7 (hq : POK q) : POK (md7 p m q) := by
  have h := POK_setHf (POK_md5 hp hL hq) (more_rng hp.hf)
  unfold md7; split
  · exact POK_setHf h ⟨by decide, by decide⟩
  · exact h
theorem POK_md8 (hq : POK q) : POK (md8 p m q) := by
  have h := POK_md7 hp hL hq
  unfold md8; split
  · exact POK_setFl h (more_rng hp.fl)
  · exact h
theorem POK_md9 (hq : POK q) : POK (md9 p m q) := by
  have h1 := hp.tu
  have h2 := hL.t
  exact POK_setTu (POK_md8 hp hL hq) yo yo
theorem POK_mdE (h : POK q) : POK (mdE p q) := by
  have hk := ckAt_rng h (tu p)
  unfold mdE; split
  · rename_i hc
    have := of_decide_eq_true (Bool.and_eq_true_iff.1 (Bool.and_eq_true_iff.1 hc).1).2
    exact POK_setCk h _ yo yo
  · exact h
end
theorem POK_madeR {p : Pos} {m : Mv} (hp : POK p) (hm : MOK m) (hL : LMv p m) : POK (madeR p m) :=
  POK_mdE hp hL (POK_md9 hp hL (POK_rightsR (POK_md3 hp hm hL) m _))

theorem c_ref16_rights (p : Pos) (hp : POK p) (q : Pos) (hq : POK q) (m : Mv) (hm : MOK m) (tk : Int) (M : List Fact) (hL : LMv p m) (htk : -1 ≤ tk ∧ tk < 64) : Pure Tryz.prog 123 [enc posT p, enc posT q, enc moveT m, .int .i64 tk] M (enc posT (rightsR p q m tk)) := by
 obtain ⟨hb, hpw, hvr, htu, hpg, hvr0, htu0⟩ := hp.head
 have hmF := hm.f
 have hmT := hm.t
 have hmP := hm.p
 have hmD := hm.d
 have hmF0 := hm.f
 have hmT0 := hm.t
 have hmP0 := hm.p
 have hmD0 := hm.d
 simp only [mF] at hmF0
 simp only [mT] at hmT0
 simp only [mP] at hmP0
 simp only [mD] at hmD0
 have ht := hL.t
 have ht2 := hL.t
 simp only [tu] at ht2
 have hF := hL.f
 have hF0 := hL.f
 simp only [mF] at hF0
 have hT := hL.to
 have hT0 := hL.to
 simp only [mT] at hT0
 have hmw := wf_move m
 have hqw := hq.wf
 have hr1 := POK_rr1 (p := p) hq m
 refine pure_of_W (n := 103) Tryz.func123 rfl rfl yn ?_
 refine w2 (fun w0 => ?_)
 refine LO_l rfl (by decide : 4 < 103) (ol_box (t := posT) rfl rfl rfl yf (fun b1 => ?_))
 refine LO_l rfl (by decide : 5 < 103) (ol_box (t := posT) rfl rfl rfl yf (fun b2 => ?_))
 refine LO_l rfl (by decide : 6 < 103) (ol_box (t := moveT) rfl rfl rfl yf (fun b3 => ?_))
 refine LO_l rfl (by decide : 8 < 103) (ol_alloc (t := posT) rfl tok31 yf (fun b4 => ?_))
 refine LO_nil (W_cut [(3, .int .i64 tk), (5, ptrv b2 posT []), (6, ptrv b3 moveT []), (8, ptrv b4 posT [])] (.box b4 31 posT (zero posT) :: .box b3 55 moveT m :: .box b2 31 posT (rr1 p q m) :: .box b1 31 posT p :: M) ?_ ?_)
 ·
  refine w1 ((yR (ov_fieldAddr rfl rfl fa55_3 rfl) ?_))
  refine yR (ov_load rfl rfl ye ⟨trivial, yn⟩ rfl rfl tok5) ?_
  refine yR (ov_eql rfl rfl rfl) ?_
  refine yM ?_
  refine yG (fun hg => OpX.v (ov_fieldAddr rfl rfl fa55_0 rfl)) ?_
  refine yG (fun hg => OpX.v (ov_load rfl (look_gv rfl (bq hg)) ye ⟨trivial, yn⟩ rfl rfl tok26)) ?_
  refine yG (fun hg => OpX.v (ov_fieldAddr rfl rfl fa31_1 rfl)) ?_
  refine yG (fun hg => OpX.v (ov_indexAddr rfl (look_gv rfl (bq hg)) (look_gv rfl (bq hg)) Tryz.underlying22 rfl Tryz.sizeOf5 ya ya)) ?_
  refine yG (fun hg => OpX.v (ov_load rfl (look_gv rfl (bq hg)) ye ⟨⟨trivial, yn⟩, (tn ya ya)⟩ rfl rfl tok5)) ?_
  refine yG (fun hg => yV rfl rfl (looks_cons (look_gv rfl (bq hg)) looks_nil) Tryz.call84 xany) ?_
  refine yG (fun hg => OpX.v (ov_eql rfl (look_gv rfl (bq hg)) rfl)) ?_
  refine yR (ov_and rfl rfl rfl rfl (fun h => bq h)) ?_
  refine RO_nil (W_cond rfl (fun hc1 => ?_) (fun hc1 => ?_))
  ·
   refine W_regl (fun w0 => ?_)
   refine yL (ov_fieldAddr rfl rfl fa31_4 rfl) ?_
   refine yL (ov_load rfl rfl ye ⟨trivial, yn⟩ rfl rfl tok5) ?_
   refine yL (ov_buildA (t := i8) (ds := [(0, _), (1, _)]) rfl rfl bl27 ⟨yn, yf, ⟨yn, yf, trivial⟩⟩ rfl) ?_
   refine yL (ov_fieldAddr rfl rfl fa31_5 rfl) ?_
   refine yL (ov_indexAddr rfl rfl rfl Tryz.underlying28 rfl Tryz.sizeOf27 ya ya) ?_
   refine LO_l rfl trivial (ol_st2 rfl rfl rfl ⟨⟨trivial, yn⟩, (tn ya ya)⟩ rfl yf tok27 ?_)
   refine LO_nil ?_
   exact ⟨⟨rfl, rfl, rfl, rfl, trivial⟩, (by first | (rw [show rr1 p q m = _ from if_pos hc1]; exact yb) | (rw [show rr1 p q m = q from if_neg (Bool.eq_false_iff.1 hc1)]; exact yb))⟩
  ·
   refine W_skip ?_
   exact ⟨⟨rfl, rfl, rfl, rfl, trivial⟩, (by first | (rw [show rr1 p q m = _ from if_pos hc1]; exact yb) | (rw [show rr1 p q m = q from if_neg (Bool.eq_false_iff.1 hc1)]; exact yb))⟩
 ·
  refine W_seq (w1 ((yA_ ?_)))
  refine RO_nil (W_block (W_loop (σ := Nat) (fun s5 => s5 ≤ 2) (fun s5 => [(3, .int .i64 tk), (5, ptrv b2 posT []), (6, ptrv b3 moveT []), (8, ptrv b4 posT []), (9, .int .u8 (s5 : Int))]) (fun s5 => .box b4 31 posT (zero posT) :: .box b3 55 moveT m :: .box b2 31 posT (rrC m tk (rr1 p q m) s5) :: .box b1 31 posT p :: M) (fun s5 => 2 - s5) (0) (by simp) ⟨rfl, rfl, rfl, rfl, rfl, trivial⟩ yb ?_))
  rintro i hI
  refine W_seq (w1 ((yM ?_)))
  refine yR (ov_lss rfl rfl rfl) ?_
  refine RO_nil (W_cond rfl (fun hc2 => ?_) (fun hc2 => ?_))
  ·
   try simp only [yS] at hc2
   have hpi := POK_rrC hr1 m tk i yo
   have hkr := find_rng (rrC m tk (rr1 p q m) i) (i : Int) 6
   refine W_skip (W_seq (W_block (w1 ((yM ?_)))))
   refine yR (ov_convn rfl rfl Tryz.underlying5 Tryz.underlying3 ya) ?_
   refine yR (ov_mul rfl rfl rfl ya) ?_
   refine yA_ ?_
   refine RO_nil (w1 ((yR (ov_load rfl rfl ye trivial rfl rfl tok31) ?_)))
   refine yM ?_
   refine yP (yV rfl rfl rfl Tryz.call88 (c_ref08_Find (rrC m tk (rr1 p q m) i) hpi (i : Int) 6 _)) ?_
   refine yA_ ?_
   refine RO_nil (w1 ((yA_ ?_)))
   refine RO_nil (W_block (W_loop (σ := Nat) (fun s6 => s6 ≤ 2) (fun s6 => [(3, .int .i64 tk), (5, ptrv b2 posT []), (6, ptrv b3 moveT []), (8, ptrv b4 posT []), (9, .int .u8 (i : Int)), (10, .int .i64 (56 * (i : Int))), (11, .int .i64 (find (rrC m tk (rr1 p q m) i) (i : Int) 6)), (12, .int .i64 (s6 : Int))]) (fun s6 => .box b4 31 posT (zero posT) :: .box b3 55 moveT m :: .box b2 31 posT (rrJ m tk (rrC m tk (rr1 p q m) i) (i : Int) s6) :: .box b1 31 posT p :: M) (fun s6 => 2 - s6) (0) (by simp) ⟨rfl, rfl, rfl, rfl, rfl, rfl, rfl, rfl, trivial⟩ yb ?_))
   rintro j hJ
   refine W_seq (w1 ((yM ?_)))
   refine yR (ov_lss rfl rfl rfl) ?_
   refine RO_nil (W_cond rfl (fun hc3 => ?_) (fun hc3 => ?_))
   ·
    try simp only [yS] at hc3
    have hpj := POK_rrJ hpi m tk (i : Int) j
    have hwj := hpj.wf
    have hbj := hpj.board
    have hfr : -128 ≤ (rkAt (rrJ m tk (rrC m tk (rr1 p q m) i) (i : Int) j) (i : Int) (j : Int)) ∧ (rkAt (rrJ m tk (rrC m tk (rr1 p q m) i) (i : Int) j) (i : Int) (j : Int)) ≤ 127 := rkAt_rng hpj (i : Int) (j : Int)
    have hfr0 : @LE.le Int _ (-128) (((rrJ m tk (rrC m tk (rr1 p q m) i) (i : Int) j).2.2.2.2.2.1.getD ((i : Nat) : Int).toNat (zero (.ar 2 i8))).getD ((j : Nat) : Int).toNat (zero i8)) ∧ @LE.le Int _ (((rrJ m tk (rrC m tk (rr1 p q m) i) (i : Int) j).2.2.2.2.2.1.getD ((i : Nat) : Int).toNat (zero (.ar 2 i8))).getD ((j : Nat) : Int).toNat (zero i8)) 127 := hfr
    refine W_skip (W_seq (W_block (w1 ((yM ?_)))))
    refine yM ?_
    refine yR (ov_fieldAddr rfl rfl fa31_5 rfl) ?_
    refine yR (ov_indexAddr rfl rfl rfl Tryz.underlying28 rfl Tryz.sizeOf27 ya ya) ?_
    refine yR (ov_indexAddr rfl rfl rfl Tryz.underlying27 rfl Tryz.sizeOf26 ya ya) ?_
    refine yR (ov_load rfl rfl ye ⟨⟨⟨trivial, yn⟩, (tn ya ya)⟩, (tn ya ya)⟩ rfl rfl tok26) ?_
    refine yR (ov_convn rfl rfl Tryz.underlying26 Tryz.underlying3 ya) ?_
    refine yA_ ?_
    refine RO_nil (W_seq (w1 ((yM ?_))))
    refine yR (ov_lss rfl rfl rfl) ?_
    refine yM ?_
    refine gM ?_
    refine yG (fun hg => OpX.v (ov_gtr rfl (look_gv rfl (bq hg)) rfl)) ?_
    refine yR (ov_or rfl rfl rfl rfl (fun h => bq h)) ?_
    refine RO_nil (W_cond rfl (fun hc4 => ?_) (fun hc4 => ?_))
    ·
     refine W_exit (W_reg (yM ?_))
     refine yR (ov_add rfl rfl rfl ya) ?_
     refine yA_ ?_
     refine RO_nil ?_
     exact ⟨j + 1, yo, yo, ⟨rfl, rfl, rfl, rfl, rfl, rfl, rfl, rfl, trivial⟩, xaqy⟩
    ·
     have hf0 : 0 ≤ (rkAt (rrJ m tk (rrC m tk (rr1 p q m) i) (i : Int) j) (i : Int) (j : Int)) := Int.not_lt.1 (of_decide_eq_false (Bool.or_eq_false_iff.1 hc4).1)
     have hf7 : (rkAt (rrJ m tk (rrC m tk (rr1 p q m) i) (i : Int) j) (i : Int) (j : Int)) ≤ 7 := Int.not_lt.1 (of_decide_eq_false (Bool.or_eq_false_iff.1 hc4).2)
     have hf00 : @LE.le Int _ 0 (((rrJ m tk (rrC m tk (rr1 p q m) i) (i : Int) j).2.2.2.2.2.1.getD ((i : Nat) : Int).toNat (zero (.ar 2 i8))).getD ((j : Nat) : Int).toNat (zero i8)) := hf0
     have hf77 : @LE.le Int _ (((rrJ m tk (rrC m tk (rr1 p q m) i) (i : Int) j).2.2.2.2.2.1.getD ((i : Nat) : Int).toNat (zero (.ar 2 i8))).getD ((j : Nat) : Int).toNat (zero i8)) 7 := hf7
     refine W_skip (w1 ((yM ?_)))
     refine yM ?_
     refine yR (ov_add rfl rfl rfl ya) ?_
     refine yA_ ?_
     refine RO_nil (w1 ((yM ?_)))
     refine yM ?_
     refine yR (ov_lss rfl rfl rfl) ?_
     refine yM ?_
     refine gM ?_
     refine gM ?_
     refine yG (fun hg => OpX.v (ov_add rfl (look_gv rfl (bq hg)) rfl ya)) ?_
     refine yG (fun hg => OpX.v (ov_gtr rfl (look_gv rfl (bq hg)) (look_gv rfl (bq hg)))) ?_
     refine yR (ov_or rfl rfl rfl rfl (fun h => bq h)) ?_
     refine yM ?_
     refine yG (fun hg => OpX.v (ov_load rfl rfl ye trivial rfl rfl tok31)) ?_
     refine gM ?_
     refine gM ?_
     refine RO_g1 rfl rfl rfl rfl rfl yd (fun hg => by have hgx := hg; (try simp only [yS] at hgx); exact yV rfl rfl (looks_cons (look_gv rfl (bq hg)) (looks_cons (look_gv rfl (bq hg)) (looks_cons (look_gv rfl (bq hg)) (looks_cons rfl looks_nil)))) Tryz.call89 (c_ref08_Is (rrJ m tk (rrC m tk (rr1 p q m) i) (i : Int) j) hpj _ (i : Int) 4 _ yo yo)) ?_
     refine yG (fun hg => OpX.v (ov_not rfl (look_gv rfl (bq hg)))) ?_
     refine yR (ov_or rfl rfl rfl rfl (fun h => bq h)) ?_
     refine yM ?_
     refine gM ?_
     refine gM ?_
     refine yG (fun hg => OpX.v (ov_eql rfl (look_gv rfl (bq hg)) (look_gv rfl (bq hg)))) ?_
     refine yR (ov_or rfl rfl rfl rfl (fun h => bq h)) ?_
     refine yM ?_
     refine yG (fun hg => OpX.v (ov_fieldAddr rfl rfl fa55_3 rfl)) ?_
     refine yG (fun hg => OpX.v (ov_load rfl (look_gv rfl (bq hg)) ye ⟨trivial, yn⟩ rfl rfl tok5)) ?_
     refine yG (fun hg => OpX.v (ov_eql rfl (look_gv rfl (bq hg)) rfl)) ?_
     refine yG (fun hg => OpX.v (ov_move rfl (look_gv rfl (bq hg)))) ?_
     refine RO_g rfl rfl rfl rfl rfl yd (fun hg1 hg2 => OpX.v (ov_fieldAddr rfl rfl fa55_0 rfl)) ?_
     refine RO_g rfl rfl rfl rfl rfl yd (fun hg1 hg2 => OpX.v (ov_load rfl (look_gv rfl (bq2 hg1 hg2)) ye ⟨trivial, yn⟩ rfl rfl tok26)) ?_
     refine RO_g rfl rfl rfl rfl rfl yd (fun hg1 hg2 => OpX.v (ov_convn rfl (look_gv rfl (bq2 hg1 hg2)) Tryz.underlying26 Tryz.underlying3 ya)) ?_
     refine RO_g rfl rfl rfl rfl rfl yd (fun hg1 hg2 => OpX.v (ov_move rfl rfl)) ?_
     refine RO_g rfl rfl rfl rfl rfl yd (fun hg1 hg2 => OpX.v (ov_eql rfl (look_gv rfl (bq2 hg1 hg2)) (look_gv rfl (bq2 hg1 hg2)))) ?_
     refine yG (fun hg => OpX.v (ov_and rfl (look_gv rfl (bq hg)) rfl rfl (fun h => bq2 (bq hg) h))) ?_
     refine yR (ov_or rfl rfl rfl rfl (fun h => bq h)) ?_
     refine yA_ ?_
     refine RO_nil (w1 ((yM ?_)))
     refine RO_nil (W_cond rfl (fun hc5 => ?_) (fun hc5 => ?_))
     ·
      refine W_regl (fun w0 => ?_)
      refine zM ?_
      refine zM ?_
      refine yL (ov_fieldAddr rfl rfl fa31_5 rfl) ?_
      refine yL (ov_indexAddr rfl rfl rfl Tryz.underlying28 rfl Tryz.sizeOf27 ya ya) ?_
      refine yL (ov_indexAddr rfl rfl rfl Tryz.underlying27 rfl Tryz.sizeOf26 ya ya) ?_
      refine LO_l rfl trivial (ol_st2 rfl rfl rfl ⟨⟨⟨trivial, yn⟩, (tn ya ya)⟩, (tn ya ya)⟩ rfl yf tok26 ?_)
      refine LO_nil (W_reg (yM ?_))
      refine yR (ov_add rfl rfl rfl ya) ?_
      refine yA_ ?_
      refine RO_nil ?_
      exact ⟨j + 1, yo, yo, ⟨rfl, rfl, rfl, rfl, rfl, rfl, rfl, rfl, trivial⟩, xaqy⟩
     ·
      refine W_skip (W_reg (yM ?_))
      refine yR (ov_add rfl rfl rfl ya) ?_
      refine yA_ ?_
      refine RO_nil ?_
      exact ⟨j + 1, yo, yo, ⟨rfl, rfl, rfl, rfl, rfl, rfl, rfl, rfl, trivial⟩, xaqy⟩
   ·
    try simp only [yS] at hc3
    refine W_exit (W_reg (yM ?_))
    refine yR (ov_add rfl rfl rfl ya) ?_
    refine yA_ ?_
    refine RO_nil ?_
    exact ⟨i + 1, yo, yo, ⟨rfl, rfl, rfl, rfl, rfl, trivial⟩, (by rw [rrC_next m tk (rr1 p q m) (i := i) (j := j) yo]; exact yb)⟩
  ·
   try simp only [yS] at hc2
   refine W_exit (W_seq ?_)
   have hwe := (POK_rrC hr1 m tk i yo).wf
   refine W_regl (fun w0 => ?_)
   refine yL (ov_load rfl rfl ye trivial rfl rfl tok31) ?_
   refine LO_l rfl trivial (ol_sw0 rfl rfl rfl rfl yf tok31 ?_)
   refine LO_nil (W_ret ⟨trivial, yb, (ResV_cell rfl rfl ye rfl tok31 ?_)⟩)
   exact val_enc (by rw [show i = 2 by omega]; rfl)

theorem c_ref16_passing (p : Pos) (hp : POK p) (q : Pos) (hq : POK q) (m : Mv) (hm : MOK m) (M : List Fact) (hL : LMv p m) : Pure Tryz.prog 124 [enc posT p, enc posT q, enc moveT m] M (.int .i8 (passR p q m)) := by
 obtain ⟨hb, hpw, hvr, htu, hpg, hvr0, htu0⟩ := hp.head
 have hmF := hm.f
 have hmT := hm.t
 have hmP := hm.p
 have hmD := hm.d
 have hmF0 := hm.f
 have hmT0 := hm.t
 have hmP0 := hm.p
 have hmD0 := hm.d
 simp only [mF] at hmF0
 simp only [mT] at hmT0
 simp only [mP] at hmP0
 simp only [mD] at hmD0
 have ht := hL.t
 have ht2 := hL.t
 simp only [tu] at ht2
 have hF := hL.f
 have hF0 := hL.f
 simp only [mF] at hF0
 have hT := hL.to
 have hT0 := hL.to
 simp only [mT] at hT0
 have hmw := wf_move m
 have hqw := hq.wf
 have hqb := hq.board
 have hup := upR_val (tu p)
 have hup0 : upR p.2.2.2.2.1 = 8 ∨ upR p.2.2.2.2.1 = -8 := hup
 refine pure_of_W (n := 69) Tryz.func124 rfl rfl yn ?_
 refine w2 (fun w0 => ?_)
 refine LO_l rfl (by decide : 3 < 69) (ol_box (t := posT) rfl rfl rfl yf (fun b1 => ?_))
 refine LO_l rfl (by decide : 4 < 69) (ol_box (t := posT) rfl rfl rfl yf (fun b2 => ?_))
 refine LO_l rfl (by decide : 5 < 69) (ol_box (t := moveT) rfl rfl rfl yf (fun b3 => ?_))
 refine zA ?_
 refine LO_nil (W_seq (w1 ((yR (ov_fieldAddr rfl rfl fa55_3 rfl) ?_))))
 refine yR (ov_load rfl rfl ye ⟨trivial, yn⟩ rfl rfl tok5) ?_
 refine yR (ov_neq rfl rfl rfl) ?_
 refine yM ?_
 refine yG (fun hg => OpX.v (ov_fieldAddr rfl rfl fa55_4 rfl)) ?_
 refine yG (fun hg => OpX.v (ov_load rfl (look_gv rfl (bq hg)) ye ⟨trivial, yn⟩ rfl rfl tok4)) ?_
 refine yR (ov_or rfl rfl rfl rfl (fun h => bq h)) ?_
 refine yM ?_
 refine yG (fun hg => OpX.v (ov_fieldAddr rfl rfl fa55_0 rfl)) ?_
 refine yG (fun hg => OpX.v (ov_load rfl (look_gv rfl (bq hg)) ye ⟨trivial, yn⟩ rfl rfl tok26)) ?_
 refine yG (fun hg => OpX.v (ov_fieldAddr rfl rfl fa31_1 rfl)) ?_
 refine yG (fun hg => OpX.v (ov_indexAddr rfl (look_gv rfl (bq hg)) (look_gv rfl (bq hg)) Tryz.underlying22 rfl Tryz.sizeOf5 ya ya)) ?_
 refine yG (fun hg => OpX.v (ov_load rfl (look_gv rfl (bq hg)) ye ⟨⟨trivial, yn⟩, (tn ya ya)⟩ rfl rfl tok5)) ?_
 refine yG (fun hg => yV rfl rfl (looks_cons (look_gv rfl (bq hg)) looks_nil) Tryz.call84 xany) ?_
 refine yG (fun hg => OpX.v (ov_neq rfl (look_gv rfl (bq hg)) rfl)) ?_
 refine yR (ov_or rfl rfl rfl rfl (fun h => bq h)) ?_
 refine RO_nil (W_cond rfl (fun hc1 => ?_) (fun hc1 => ?_))
 ·
  refine w1 ((yA_ ?_))
  refine RO_nil (W_ret ⟨trivial, yb, (ResV_tmp1 rfl rfl ?_)⟩)
  exact xbxy
 ·
  refine W_skip (w1 ((yR (ov_fieldAddr rfl rfl fa31_4 rfl) ?_)))
  refine yR (ov_load rfl rfl ye ⟨trivial, yn⟩ rfl rfl tok5) ?_
  refine yP (yV rfl rfl rfl Tryz.call156 (by apply c_ref13_Up <;> exact yz)) ?_
  refine yA_ ?_
  refine RO_nil (w1 ((yR (ov_fieldAddr rfl rfl fa55_0 rfl) ?_)))
  refine yR (ov_load rfl rfl ye ⟨trivial, yn⟩ rfl rfl tok26) ?_
  refine yR (ov_convn rfl rfl Tryz.underlying26 Tryz.underlying3 ya) ?_
  refine yA_ ?_
  refine RO_nil (W_seq (w1 ((yR (ov_fieldAddr rfl rfl fa55_1 rfl) ?_))))
  refine yR (ov_load rfl rfl ye ⟨trivial, yn⟩ rfl rfl tok26) ?_
  refine yR (ov_convn rfl rfl Tryz.underlying26 Tryz.underlying3 ya) ?_
  refine yM ?_
  refine yM ?_
  refine yR (ov_mul rfl rfl rfl ya) ?_
  refine yR (ov_add rfl rfl rfl ya) ?_
  refine yR (ov_neq rfl rfl rfl) ?_
  refine yM ?_
  refine yG (fun hg => OpX.v (ov_fieldAddr rfl rfl fa31_4 rfl)) ?_
  refine yG (fun hg => OpX.v (ov_load rfl (look_gv rfl (bq hg)) ye ⟨trivial, yn⟩ rfl rfl tok5)) ?_
  refine gM ?_
  refine yG (fun hg => yV rfl rfl (looks_cons (look_gv rfl (bq hg)) (looks_cons (look_gv rfl (bq hg)) looks_nil)) Tryz.call133 (by apply c_ref13_Rank <;> exact yz)) ?_
  refine yG (fun hg => OpX.v (ov_neq rfl (look_gv rfl (bq hg)) rfl)) ?_
  refine yR (ov_or rfl rfl rfl rfl (fun h => bq h)) ?_
  refine RO_nil (W_cond rfl (fun hc2 => ?_) (fun hc2 => ?_))
  ·
   refine w1 ((yA_ ?_))
   refine RO_nil (W_ret ⟨trivial, yb, (ResV_tmp1 rfl rfl ?_)⟩)
   exact xbxy
  ·
   have hto : mT m = mF m + 2 * upR (tu p) := pass_to hc2
   have hto0 := hto
   simp only [mF, mT, tu] at hto0
   refine W_skip (W_seq (w1 ((yA_ ?_))))
   refine RO_nil (W_block (W_loop (σ := Nat) (fun i => i ≤ 64 ∧ okTo (passF p q m) i = true) (fun i => [(3, ptrv b1 posT []), (4, ptrv b2 posT []), (7, .int .i64 (upR (tu p))), (8, .int .i64 (mF m)), (9, .int .i64 (i : Int))]) (fun i => .box b3 55 moveT _ :: .box b2 31 posT _ :: .box b1 31 posT _ :: M) (fun i => 64 - i) (0) ⟨by omega, rfl⟩ ⟨rfl, rfl, rfl, rfl, rfl, trivial⟩ yb ?_))
   rintro i ⟨hI, hN⟩
   refine W_seq (w1 ((yM ?_)))
   refine yR (ov_lss rfl rfl rfl) ?_
   refine RO_nil (W_cond rfl (fun hc3 => ?_) (fun hc3 => ?_))
   ·
    try simp only [yS] at hc3
    refine W_skip (W_seq (W_block (w1 ((yR (ov_load rfl rfl ye trivial rfl rfl tok31) ?_)))))
    refine yM ?_
    refine yR (ov_fieldAddr rfl rfl fa31_4 rfl) ?_
    refine yR (ov_load rfl rfl ye ⟨trivial, yn⟩ rfl rfl tok5) ?_
    refine yR (ov_sub rfl rfl rfl ya) ?_
    refine yP (yV rfl rfl rfl Tryz.call89 (c_ref08_Is q hq _ (1 - tu p) 1 _ yo yo)) ?_
    refine yM ?_
    refine yG (fun hg => OpX.v (ov_load rfl rfl ye trivial rfl rfl tok31)) ?_
    refine gM ?_
    refine gM ?_
    refine gM ?_
    refine yG (fun hg => OpX.v (ov_add rfl (look_gv rfl (bq hg)) (look_gv rfl (bq hg)) ya)) ?_
    refine yG (fun hg => yV rfl rfl (looks_cons (look_gv rfl (bq hg)) (looks_cons (look_gv rfl (bq hg)) (looks_cons (look_gv rfl (bq hg)) looks_nil))) Tryz.call90 (c_ref08_Hits q hq (i : Int) (mF m + upR (tu p)) _ yo yo yo yo)) ?_
    refine yR (ov_and rfl rfl rfl rfl (fun h => bq h)) ?_
    refine RO_nil (W_cond rfl (fun hc4 => ?_) (fun hc4 => ?_))
    ·
     refine w1 ((yM ?_))
     refine yM ?_
     refine yR (ov_add rfl rfl rfl ya) ?_
     refine yR (ov_convn rfl rfl Tryz.underlying3 Tryz.underlying26 ya) ?_
     refine yA_ ?_
     refine RO_nil (W_ret ⟨trivial, yb, (ResV_tmp1 rfl rfl ?_)⟩)
     exact xbxy
    ·
     refine W_skip (W_reg (yM ?_))
     refine yR (ov_add rfl rfl rfl ya) ?_
     refine yA_ ?_
     refine RO_nil ?_
     exact ⟨i + 1, yo, ⟨by omega, okTo_next hN hc4⟩, ⟨rfl, rfl, rfl, rfl, rfl, trivial⟩, yb⟩
   ·
    try simp only [yS] at hc3
    refine W_exit (w1 ((yA_ ?_)))
    refine RO_nil (W_ret ⟨trivial, yb, (ResV_tmp1 rfl rfl ?_)⟩)
    exact xbxy

theorem c_ref16_more (x : Int) (M : List Fact) (h0 : -9223372036854775808 ≤ x) : Pure Tryz.prog 125 [.int .i64 x] M (.int .i64 (moreP x)) := by
 refine pure_of_W (n := 8) Tryz.func125 rfl rfl yn ?_
 refine w1 ((yA_ ?_))
 refine RO_nil (W_seq (w1 ((yM ?_))))
 refine yR (ov_geq rfl rfl rfl) ?_
 refine RO_nil (W_cond rfl (fun hc1 => ?_) (fun hc1 => ?_))
 ·
  try simp only [yS] at hc1
  refine w1 ((yM ?_))
  refine yA_ ?_
  refine RO_nil (W_ret ⟨trivial, yb, (ResV_tmp1 rfl rfl ?_)⟩)
  exact val_int (by unfold moreP; first | exact (if_pos xaky).symm | exact (if_neg xaky).symm)
 ·
  try simp only [yS] at hc1
  refine W_skip (w1 ((yM ?_)))
  refine yR (ov_add rfl rfl rfl ya) ?_
  refine yA_ ?_
  refine RO_nil (W_ret ⟨trivial, yb, (ResV_tmp1 rfl rfl ?_)⟩)
  exact val_int (by unfold moreP; first | exact (if_pos xaky).symm | exact (if_neg xaky).symm)

theorem c_ref16_Made (p : Pos) (hp : POK p) (m : Mv) (hm : MOK m) (M : List Fact) (hL : LMv p m) : Pure Tryz.prog 56 [enc posT p, enc moveT m] M (enc posT (mdE p (md9 p m (md4 p m)))) := by
 obtain ⟨hb, hpw, hvr, htu, hpg, hvr0, htu0⟩ := hp.head
 have hmF := hm.f
 have hmT := hm.t
 have hmP := hm.p
 have hmD := hm.d
 have hmF0 := hm.f
 have hmT0 := hm.t
 have hmP0 := hm.p
 have hmD0 := hm.d
 simp only [mF] at hmF0
 simp only [mT] at hmT0
 simp only [mP] at hmP0
 simp only [mD] at hmD0
 have ht := hL.t
 have ht2 := hL.t
 simp only [tu] at ht2
 have hF := hL.f
 have hF0 := hL.f
 simp only [mF] at hF0
 have hT := hL.to
 have hT0 := hL.to
 simp only [mT] at hT0
 have hmw := wf_move m
 have htk := takenR_rng hp m
 have hhf := hp.hf
 have hfl := hp.fl
 have hmrh := more_rng hhf
 have hmrf := more_rng hfl
 have hmen := POK_menR hp hm hL (takenR p m)
 have hp2 : POK (md2 p m) := POK_pocketR hmen m (takenR p m)
 have hp3 := POK_md3 hp hm hL
 have hp4 : POK (md4 p m) := POK_rightsR hp3 m (takenR p m)
 have hb2 := hp2.board
 refine pure_of_W (n := 118) Tryz.func56 rfl rfl yn ?_
 refine w2 (fun w0 => ?_)
 refine LO_l rfl (by decide : 2 < 118) (ol_box (t := posT) rfl rfl rfl yf (fun b1 => ?_))
 refine LO_l rfl (by decide : 3 < 118) (ol_box (t := moveT) rfl rfl rfl yf (fun b2 => ?_))
 refine LO_l rfl (by decide : 4 < 118) (ol_alloc (t := posT) rfl tok31 yf (fun b3 => ?_))
 refine LO_nil (w1 ((yR (ov_load rfl rfl ye trivial rfl rfl tok31) ?_)))
 refine yR (ov_load rfl rfl ye trivial rfl rfl tok55) ?_
 refine yP (yV rfl rfl rfl Tryz.call98 (by apply c_ref13_Taken <;> exact yz)) ?_
 refine yA_ ?_
 refine RO_nil (W_seq ?_)
 have hwA := hmen.wf
 refine W_regl (fun w0 => ?_)
 refine yL (ov_load rfl rfl ye trivial rfl rfl tok31) ?_
 refine yL (ov_load rfl rfl ye trivial rfl rfl tok55) ?_
 refine zM ?_
 refine yQ (yV rfl rfl rfl Tryz.call119 (c_ref16_men p hp m hm (takenR p m) _ hL htk)) ?_
 refine LO_l rfl (by decide : 6 < 118) (ol_alloc (t := posT) rfl tok31 yf (fun b4 => ?_))
 refine LO_l rfl trivial (ol_sw0 rfl rfl rfl rfl yf tok31 ?_)
 refine LO_nil (W_seq ?_)
 have hw2 := hp2.wf
 refine W_regl (fun w0 => ?_)
 refine yL (ov_load rfl rfl ye trivial rfl rfl tok31) ?_
 refine yL (ov_load rfl rfl ye trivial rfl rfl tok31) ?_
 refine yL (ov_load rfl rfl ye trivial rfl rfl tok55) ?_
 refine zM ?_
 refine yQ (yV rfl rfl rfl Tryz.call120 (c_ref16_pocket p hp _ hmen m hm (takenR p m) _ hL htk)) ?_
 refine LO_l rfl trivial (ol_sw0 rfl rfl rfl rfl yf tok31 ?_)
 refine LO_nil (W_cut [(2, ptrv b1 posT []), (3, ptrv b2 moveT []), (4, ptrv b3 posT []), (6, ptrv b4 posT []), (5, .int .i64 (takenR p m))] (.box b4 31 posT (md3 p m) :: .box b3 31 posT (zero posT) :: .box b2 55 moveT m :: .box b1 31 posT p :: M) ?_ ?_)
 ·
  refine w1 ((yR (ov_fieldAddr rfl rfl fa31_0 rfl) ?_))
  refine yR (ov_load rfl rfl ye ⟨trivial, yn⟩ rfl rfl tok5) ?_
  refine yR (ov_eql rfl rfl rfl) ?_
  refine yM ?_
  refine gM ?_
  refine yG (fun hg => OpX.v (ov_geq rfl (look_gv rfl (bq hg)) rfl)) ?_
  refine yR (ov_and rfl rfl rfl rfl (fun h => bq h)) ?_
  refine RO_nil (W_cond rfl (fun hc1 => ?_) (fun hc1 => ?_))
  ·
   refine w1 ((yR (ov_load rfl rfl ye trivial rfl rfl tok31) ?_))
   refine yR (ov_fieldAddr rfl rfl fa55_1 rfl) ?_
   refine yR (ov_load rfl rfl ye ⟨trivial, yn⟩ rfl rfl tok26) ?_
   refine yR (ov_convn rfl rfl Tryz.underlying26 Tryz.underlying3 ya) ?_
   refine yP (yV rfl rfl rfl Tryz.call121 (c_ref16_Blown (md2 p m) hp2 (mT m) _ hT.1 hT.2)) ?_
   refine yA_ ?_
   refine RO_nil (w1 ((yA_ ?_)))
   refine RO_nil (W_block (W_loop (σ := Nat) (fun s5 => s5 ≤ 64) (fun s5 => [(2, ptrv b1 posT []), (3, ptrv b2 moveT []), (4, ptrv b3 posT []), (6, ptrv b4 posT []), (5, .int .i64 (takenR p m)), (7, u64v (blownR (md2 p m) (mT m))), (8, .int .i64 (s5 : Int))]) (fun s5 => .box b4 31 posT (blowTo (md2 p m) (blownR (md2 p m) (mT m)) s5) :: .box b3 31 posT (zero posT) :: .box b2 55 moveT m :: .box b1 31 posT p :: M) (fun s5 => 64 - s5) (0) (by simp) ⟨rfl, rfl, rfl, rfl, rfl, rfl, rfl, trivial⟩ yb ?_))
   rintro i hI
   refine W_seq (w1 ((yM ?_)))
   refine yR (ov_lss rfl rfl rfl) ?_
   refine RO_nil (W_cond rfl (fun hc2 => ?_) (fun hc2 => ?_))
   ·
    try simp only [yS] at hc2
    refine W_skip (W_seq (W_block (w1 ((yM ?_)))))
    refine yM ?_
    refine yP (yV rfl rfl rfl Tryz.call122 (by apply c_ref16_Has <;> exact yz)) ?_
    refine RO_nil (W_cond rfl (fun hc3 => ?_) (fun hc3 => ?_))
    ·
     refine W_regl (fun w0 => ?_)
     refine zM ?_
     refine yL (ov_fieldAddr rfl rfl fa31_1 rfl) ?_
     refine yL (ov_indexAddr rfl rfl rfl Tryz.underlying22 rfl Tryz.sizeOf5 ya ya) ?_
     refine LO_l rfl trivial (ol_st0 rfl rfl rfl ⟨⟨trivial, yn⟩, (tn ya ya)⟩ rfl yf tok5 ?_)
     refine LO_nil (W_reg (yM ?_))
     refine yR (ov_add rfl rfl rfl ya) ?_
     refine yA_ ?_
     refine RO_nil ?_
     exact ⟨i + 1, yo, yo, ⟨rfl, rfl, rfl, rfl, rfl, rfl, rfl, trivial⟩, (by first | (rw [blow_yes (q := (md2 p m)) (b := blownR (md2 p m) (mT m)) (i := i) hc3]; exact yb) | (rw [blow_no (q := (md2 p m)) (b := blownR (md2 p m) (mT m)) (i := i) hc3]; exact yb))⟩
    ·
     refine W_skip (W_reg (yM ?_))
     refine yR (ov_add rfl rfl rfl ya) ?_
     refine yA_ ?_
     refine RO_nil ?_
     exact ⟨i + 1, yo, yo, ⟨rfl, rfl, rfl, rfl, rfl, rfl, rfl, trivial⟩, (by first | (rw [blow_yes (q := (md2 p m)) (b := blownR (md2 p m) (mT m)) (i := i) hc3]; exact yb) | (rw [blow_no (q := (md2 p m)) (b := blownR (md2 p m) (mT m)) (i := i) hc3]; exact yb))⟩
   ·
    try simp only [yS] at hc2
    refine W_exit ?_
    exact ⟨⟨rfl, rfl, rfl, rfl, rfl, trivial⟩, (by first | (rw [show md3 p m = _ from (if_pos hc1).trans (congrArg (blowTo _ _) (show 64 = i by omega))]; exact yb) | (rw [show md3 p m = _ from if_neg (Bool.eq_false_iff.1 hc1)]; exact yb))⟩
  ·
   refine W_skip ?_
   exact ⟨⟨rfl, rfl, rfl, rfl, rfl, trivial⟩, (by first | (rw [show md3 p m = _ from (if_pos hc1).trans (congrArg (blowTo _ _) (show 64 = i by omega))]; exact yb) | (rw [show md3 p m = _ from if_neg (Bool.eq_false_iff.1 hc1)]; exact yb))⟩
 ·
  refine W_cut [(2, ptrv b1 posT []), (3, ptrv b2 moveT []), (4, ptrv b3 posT []), (6, ptrv b4 posT []), (5, .int .i64 (takenR p m))] (.box b4 31 posT (md4 p m) :: .box b3 31 posT (zero posT) :: .box b2 55 moveT m :: .box b1 31 posT p :: M) ?_ ?_
  ·
   have hw4 := hp4.wf
   refine W_regl (fun w0 => ?_)
   refine yL (ov_load rfl rfl ye trivial rfl rfl tok31) ?_
   refine yL (ov_load rfl rfl ye trivial rfl rfl tok31) ?_
   refine yL (ov_load rfl rfl ye trivial rfl rfl tok55) ?_
   refine zM ?_
   refine yQ (yV rfl rfl rfl Tryz.call123 (c_ref16_rights p hp (md3 p m) hp3 m hm (takenR p m) _ hL htk)) ?_
   refine LO_l rfl trivial (ol_sw0 rfl rfl rfl rfl yf tok31 ?_)
   refine LO_nil ?_
   exact ⟨⟨rfl, rfl, rfl, rfl, rfl, trivial⟩, yb⟩
  ·
   generalize md4 p m = q4 at hp4 ⊢
   have hpq := passR_rng p q4 m hL
   refine w2 (fun w0 => ?_)
   refine yL (ov_load rfl rfl ye trivial rfl rfl tok31) ?_
   refine yL (ov_load rfl rfl ye trivial rfl rfl tok31) ?_
   refine yL (ov_load rfl rfl ye trivial rfl rfl tok55) ?_
   refine yQ (yV rfl rfl rfl Tryz.call124 (c_ref16_passing p hp q4 hp4 m hm _ hL)) ?_
   refine yL (ov_fieldAddr rfl rfl fa31_6 rfl) ?_
   refine LO_l rfl trivial (ol_st0 rfl rfl rfl ⟨trivial, yn⟩ rfl yf tok26 ?_)
   refine LO_nil (w1 ((yR (ov_fieldAddr rfl rfl fa55_3 rfl) ?_)))
   refine yR (ov_load rfl rfl ye ⟨trivial, yn⟩ rfl rfl tok5) ?_
   refine yR (ov_eql rfl rfl rfl) ?_
   refine yM ?_
   refine yG (fun hg => OpX.v (ov_fieldAddr rfl rfl fa55_3 rfl)) ?_
   refine yG (fun hg => OpX.v (ov_load rfl (look_gv rfl (bq hg)) ye ⟨trivial, yn⟩ rfl rfl tok5)) ?_
   refine yG (fun hg => OpX.v (ov_eql rfl (look_gv rfl (bq hg)) rfl)) ?_
   refine yG (fun hg => OpX.v (ov_move rfl (look_gv rfl (bq hg)))) ?_
   refine RO_g rfl rfl rfl rfl rfl yd (fun hg1 hg2 => OpX.v (ov_fieldAddr rfl rfl fa55_0 rfl)) ?_
   refine RO_g rfl rfl rfl rfl rfl yd (fun hg1 hg2 => OpX.v (ov_load rfl (look_gv rfl (bq2 hg1 hg2)) ye ⟨trivial, yn⟩ rfl rfl tok26)) ?_
   refine RO_g rfl rfl rfl rfl rfl yd (fun hg1 hg2 => OpX.v (ov_fieldAddr rfl rfl fa31_1 rfl)) ?_
   refine RO_g rfl rfl rfl rfl rfl yd (fun hg1 hg2 => OpX.v (ov_indexAddr rfl (look_gv rfl (bq2 hg1 hg2)) (look_gv rfl (bq2 hg1 hg2)) Tryz.underlying22 rfl Tryz.sizeOf5 ya ya)) ?_
   refine RO_g rfl rfl rfl rfl rfl yd (fun hg1 hg2 => OpX.v (ov_load rfl (look_gv rfl (bq2 hg1 hg2)) ye ⟨⟨trivial, yn⟩, (tn ya ya)⟩ rfl rfl tok5)) ?_
   refine RO_g rfl rfl rfl rfl rfl yd (fun hg1 hg2 => yV rfl rfl (looks_cons (look_gv rfl (bq2 hg1 hg2)) looks_nil) Tryz.call84 xany) ?_
   refine RO_g rfl rfl rfl rfl rfl yd (fun hg1 hg2 => OpX.v (ov_eql rfl (look_gv rfl (bq2 hg1 hg2)) rfl)) ?_
   refine yG (fun hg => OpX.v (ov_and rfl (look_gv rfl (bq hg)) rfl rfl (fun h => bq2 (bq hg) h))) ?_
   refine yR (ov_or rfl rfl rfl rfl (fun h => bq h)) ?_
   refine yA_ ?_
   refine RO_nil (w2 (fun w0 => ?_))
   refine yL (ov_fieldAddr rfl rfl fa31_8 rfl) ?_
   refine yL (ov_load rfl rfl ye ⟨trivial, yn⟩ rfl rfl tok3) ?_
   refine yQ (yV rfl rfl rfl Tryz.call125 (c_ref16_more (hf p) _ hhf.1)) ?_
   refine yL (ov_fieldAddr rfl rfl fa31_8 rfl) ?_
   refine LO_l rfl trivial (ol_st0 rfl rfl rfl ⟨trivial, yn⟩ rfl yf tok3 ?_)
   refine LO_nil (W_cut [(2, ptrv b1 posT []), (4, ptrv b3 posT []), (6, ptrv b4 posT [])] (.box b4 31 posT (md7 p m q4) :: .box b3 31 posT (zero posT) :: .box b2 55 moveT m :: .box b1 31 posT p :: M) ?_ ?_)
   ·
    refine w1 ((yM ?_))
    refine yM ?_
    refine gM ?_
    refine yG (fun hg => OpX.v (ov_geq rfl (look_gv rfl (bq hg)) rfl)) ?_
    refine yR (ov_or rfl rfl rfl rfl (fun h => bq h)) ?_
    refine RO_nil (W_cond rfl (fun hc4 => ?_) (fun hc4 => ?_))
    ·
     refine W_regl (fun w0 => ?_)
     refine yL (ov_fieldAddr rfl rfl fa31_8 rfl) ?_
     refine LO_l rfl trivial (ol_st0 rfl rfl rfl ⟨trivial, yn⟩ rfl yf tok3 ?_)
     refine LO_nil ?_
     exact ⟨⟨rfl, rfl, rfl, trivial⟩, (by first | (rw [show md7 p m q4 = _ from if_pos hc4]; exact yb) | (rw [show md7 p m q4 = _ from if_neg (Bool.eq_false_iff.1 hc4)]; exact yb))⟩
    ·
     refine W_skip ?_
     exact ⟨⟨rfl, rfl, rfl, trivial⟩, (by first | (rw [show md7 p m q4 = _ from if_pos hc4]; exact yb) | (rw [show md7 p m q4 = _ from if_neg (Bool.eq_false_iff.1 hc4)]; exact yb))⟩
   ·
    have hp8 := POK_md8 hp hL hp4
    refine W_cut [(2, ptrv b1 posT []), (4, ptrv b3 posT []), (6, ptrv b4 posT [])] (.box b4 31 posT (md8 p m q4) :: .box b3 31 posT (zero posT) :: .box b2 55 moveT m :: .box b1 31 posT p :: M) ?_ ?_
    ·
     refine w1 ((yR (ov_fieldAddr rfl rfl fa31_4 rfl) ?_))
     refine yR (ov_load rfl rfl ye ⟨trivial, yn⟩ rfl rfl tok5) ?_
     refine yR (ov_eql rfl rfl rfl) ?_
     refine RO_nil (W_cond rfl (fun hc5 => ?_) (fun hc5 => ?_))
     ·
      refine W_regl (fun w0 => ?_)
      refine yL (ov_fieldAddr rfl rfl fa31_9 rfl) ?_
      refine yL (ov_load rfl rfl ye ⟨trivial, yn⟩ rfl rfl tok3) ?_
      refine yQ (yV rfl rfl rfl Tryz.call125 (c_ref16_more (fl p) _ hfl.1)) ?_
      refine yL (ov_fieldAddr rfl rfl fa31_9 rfl) ?_
      refine LO_l rfl trivial (ol_st0 rfl rfl rfl ⟨trivial, yn⟩ rfl yf tok3 ?_)
      refine LO_nil ?_
      exact ⟨⟨rfl, rfl, rfl, trivial⟩, (by first | (rw [show md8 p m q4 = _ from if_pos hc5]; exact yb) | (rw [show md8 p m q4 = _ from if_neg (Bool.eq_false_iff.1 hc5)]; exact yb))⟩
     ·
      refine W_skip ?_
      exact ⟨⟨rfl, rfl, rfl, trivial⟩, (by first | (rw [show md8 p m q4 = _ from if_pos hc5]; exact yb) | (rw [show md8 p m q4 = _ from if_neg (Bool.eq_false_iff.1 hc5)]; exact yb))⟩
    ·
     refine W_cut [(2, ptrv b1 posT []), (4, ptrv b3 posT []), (6, ptrv b4 posT [])] (.box b4 31 posT (md9 p m q4) :: .box b3 31 posT (zero posT) :: .box b2 55 moveT m :: .box b1 31 posT p :: M) ?_ ?_
     ·
      refine W_regl (fun w0 => ?_)
      refine yL (ov_fieldAddr rfl rfl fa31_4 rfl) ?_
      refine yL (ov_load rfl rfl ye ⟨trivial, yn⟩ rfl rfl tok5) ?_
      refine yL (ov_sub rfl rfl rfl ya) ?_
      refine yL (ov_fieldAddr rfl rfl fa31_4 rfl) ?_
      refine LO_l rfl trivial (ol_st0 rfl rfl rfl ⟨trivial, yn⟩ rfl yf tok5 ?_)
      refine LO_nil ?_
      exact ⟨⟨rfl, rfl, rfl, trivial⟩, yb⟩
     ·
      have hp9 := POK_md9 hp hL hp4
      have htu9 : tu (md9 p m q4) = 1 - tu p := rfl
      generalize md9 p m q4 = q9 at hp9 htu9 ⊢
      have htu90 := htu9
      simp only [tu] at htu90
      have hck := ckAt_rng hp9 (tu p)
      have hck0 := hck
      simp only [ckAt, ck, tu] at hck0
      refine W_cut [(4, ptrv b3 posT []), (6, ptrv b4 posT [])] (.box b4 31 posT (mdE p q9) :: .box b3 31 posT (zero posT) :: .box b2 55 moveT m :: .box b1 31 posT p :: M) ?_ ?_
      ·
       refine w1 ((yR (ov_fieldAddr rfl rfl fa31_0 rfl) ?_))
       refine yR (ov_load rfl rfl ye ⟨trivial, yn⟩ rfl rfl tok5) ?_
       refine yR (ov_eql rfl rfl rfl) ?_
       refine yM ?_
       refine yG (fun hg => OpX.v (ov_fieldAddr rfl rfl fa31_4 rfl)) ?_
       refine yG (fun hg => OpX.v (ov_load rfl (look_gv rfl (bq hg)) ye ⟨trivial, yn⟩ rfl rfl tok5)) ?_
       refine yG (fun hg => OpX.v (ov_fieldAddr rfl rfl fa31_7 rfl)) ?_
       refine yG (fun hg => OpX.v (ov_indexAddr rfl (look_gv rfl (bq hg)) (look_gv rfl (bq hg)) Tryz.underlying29 rfl Tryz.sizeOf5 ya ya)) ?_
       refine yG (fun hg => OpX.v (ov_load rfl (look_gv rfl (bq hg)) ye ⟨⟨trivial, yn⟩, (tn ya ya)⟩ rfl rfl tok5)) ?_
       refine yG (fun hg => OpX.v (ov_lss rfl (look_gv rfl (bq hg)) rfl)) ?_
       refine yR (ov_and rfl rfl rfl rfl (fun h => bq h)) ?_
       refine yM ?_
       refine yG (fun hg => OpX.v (ov_load rfl rfl ye trivial rfl rfl tok31)) ?_
       refine yG (fun hg => OpX.v (ov_fieldAddr rfl rfl fa31_4 rfl)) ?_
       refine yG (fun hg => OpX.v (ov_load rfl (look_gv rfl (bq hg)) ye ⟨trivial, yn⟩ rfl rfl tok5)) ?_
       refine yG (fun hg => yV rfl rfl (looks_cons (look_gv rfl (bq hg)) (looks_cons (look_gv rfl (bq hg)) looks_nil)) Tryz.call58 (c_ref08_Check q9 hp9 (tu q9) _ yo yo)) ?_
       refine yR (ov_and rfl rfl rfl rfl (fun h => bq h)) ?_
       refine RO_nil (W_cond rfl (fun hc6 => ?_) (fun hc6 => ?_))
       ·
        have hck3 : ckAt q9 (tu p) < 3 := of_decide_eq_true (Bool.and_eq_true_iff.1 (Bool.and_eq_true_iff.1 hc6).1).2
        have hck4 := hck3
        simp only [ckAt, ck, tu] at hck4
        refine W_regl (fun w0 => ?_)
        refine yL (ov_fieldAddr rfl rfl fa31_4 rfl) ?_
        refine yL (ov_load rfl rfl ye ⟨trivial, yn⟩ rfl rfl tok5) ?_
        refine yL (ov_fieldAddr rfl rfl fa31_7 rfl) ?_
        refine yL (ov_indexAddr rfl rfl rfl Tryz.underlying29 rfl Tryz.sizeOf5 ya ya) ?_
        refine yL (ov_load rfl rfl ye ⟨⟨trivial, yn⟩, (tn ya ya)⟩ rfl rfl tok5) ?_
        refine yL (ov_add rfl rfl rfl ya) ?_
        refine yL (ov_fieldAddr rfl rfl fa31_7 rfl) ?_
        refine yL (ov_indexAddr rfl rfl rfl Tryz.underlying29 rfl Tryz.sizeOf5 ya ya) ?_
        refine LO_l rfl trivial (ol_st0 rfl rfl rfl ⟨⟨trivial, yn⟩, (tn ya ya)⟩ rfl yf tok5 ?_)
        refine LO_nil ?_
        exact ⟨⟨rfl, rfl, trivial⟩, (by first | (rw [show mdE p q9 = _ from if_pos hc6]; exact yb) | (rw [show mdE p q9 = _ from if_neg (Bool.eq_false_iff.1 hc6)]; exact yb))⟩
       ·
        refine W_skip ?_
        exact ⟨⟨rfl, rfl, trivial⟩, (by first | (rw [show mdE p q9 = _ from if_pos hc6]; exact yb) | (rw [show mdE p q9 = _ from if_neg (Bool.eq_false_iff.1 hc6)]; exact yb))⟩
      ·
       refine W_seq ?_
       have hwM := (POK_mdE hp hL hp9).wf
       refine W_regl (fun w0 => ?_)
       refine yL (ov_load rfl rfl ye trivial rfl rfl tok31) ?_
       refine LO_l rfl trivial (ol_sw1 rfl rfl rfl rfl yf tok31 ?_)
       refine LO_nil (W_ret ⟨trivial, yb, (ResV_cell rfl rfl ye rfl tok31 ?_)⟩)
       rfl
end Go.Kw
set_option linter.unusedVariables false
namespace Go.Kw
open Go.Proofs


def menX (p : Pos) (c : Int) : Bool := !okTo (fun j : Nat => ownR p (j : Int) c) 64
def lastT (p q : Pos) : Bool := !decide (vr p = 8) || !refCheck q (1 - tu p)
def leavesR (p q : Pos) : Bool :=
  if refRoyal (vr p) (tu p) = true then
    (if (decide (find q (tu p) 6 < 0) || (!(decide (vr p = 3) && decide (find q (1 - tu p) 6 < 0)) && refCheck q (tu p))) = true then false else lastT p q)
  else lastT p q
def wlF (p : Pos) (m : Mv) : Bool := leavesR p (madeR p m)
def wtF (p : Pos) (m : Mv) : Bool := decide (vr p = 4) && decide (0 ≤ takenR p m)
def wdL (p : Pos) (i : Nat) : List Mv := ((allR p).take i).filter (wlF p)
def wdT (p : Pos) (i : Nat) : List Mv := ((allR p).take i).filter fun m => wlF p m && wtF p m
theorem fil_next (l : List Mv) (f : Mv → Bool) {i : Nat} (h : i < l.length) : (l.take (i + 1)).filter f = (l.take i).filter f ++ (if f (l.getD ((i : Nat) : Int).toNat (zero moveT)) = true then [l.getD ((i : Nat) : Int).toNat (zero moveT)] else []) := by
  have e : l.getD ((i : Nat) : Int).toNat (zero moveT) = l[i] := by
    show l.getD i (zero moveT) = l[i]
    rw [List.getD_eq_getElem?_getD, List.getElem?_eq_getElem h]; rfl
  rw [e, List.take_add_one, List.getElem?_eq_getElem h, List.filter_append]
  congr 1
  show List.filter f [l[i]] = _
  rw [List.filter_cons]; rfl
section
variable (p : Pos) (i : Nat)
abbrev alI : Mv := (allR p).getD ((i : Nat) : Int).toNat (zero moveT)
theorem wdL_no (h : (!leavesR p (madeR p (alI p i))) = true) (hi : i < (allR p).length) : wdL p (i + 1) = wdL p i := by
  unfold wdL; rw [fil_next _ _ hi, if_neg, List.append_nil]
  show ¬ leavesR p (madeR p (alI p i)) = true
  simpa using h
theorem wdT_no (h : (!leavesR p (madeR p (alI p i))) = true) (hi : i < (allR p).length) : wdT p (i + 1) = wdT p i := by
  unfold wdT; rw [fil_next _ _ hi, if_neg, List.append_nil]
  show ¬ (leavesR p (madeR p (alI p i)) && wtF p (alI p i)) = true
  have : leavesR p (madeR p (alI p i)) = false := by simpa using h
  rw [this]; simp
theorem wdL_yes (h : (!leavesR p (madeR p (alI p i))) = false) (hi : i < (allR p).length) : wdL p (i + 1) = wdL p i ++ [alI p i] := by
  unfold wdL; rw [fil_next _ _ hi, if_pos]
  show leavesR p (madeR p (alI p i)) = true
  simpa using h
theorem wdT_yes (h : (!leavesR p (madeR p (alI p i))) = false) (h2 : wtF p (alI p i) = true) (hi : i < (allR p).length) : wdT p (i + 1) = wdT p i ++ [alI p i] := by
  unfold wdT; rw [fil_next _ _ hi, if_pos]
  show (leavesR p (madeR p (alI p i)) && wtF p (alI p i)) = true
  have : leavesR p (madeR p (alI p i)) = true := by simpa using h
  rw [this, h2]; rfl
theorem wdT_no2 (h : (!leavesR p (madeR p (alI p i))) = false) (h2 : wtF p (alI p i) = false) (hi : i < (allR p).length) : wdT p (i + 1) = wdT p i := by
  unfold wdT; rw [fil_next _ _ hi, if_neg, List.append_nil]
  show ¬ (leavesR p (madeR p (alI p i)) && wtF p (alI p i)) = true
  rw [h2]; simp
end
theorem allR_len (p : Pos) : (allR p).length ≤ 20900 := by
  have h3 := list13_len p
  have h4 := list14_len p
  have h5 := list15_len p
  unfold allR; rw [List.length_append, List.length_append]; omega
theorem wdL_len (p : Pos) (i : Nat) : (wdL p i).length ≤ 20900 :=
  Nat.le_trans (List.length_filter_le _ _) (Nat.le_trans (List.length_take_le' _ _) (allR_len p))
theorem wdT_len (p : Pos) (i : Nat) : (wdT p i).length ≤ 20900 :=
  Nat.le_trans (List.length_filter_le _ _) (Nat.le_trans (List.length_take_le' _ _) (allR_len p))
def wouldR (p : Pos) : List Mv :=
  if (!thereR p || (refRoyal (vr p) (tu p) && decide (find p (tu p) 6 < 0))) = true then []
  else if (decide (vr p = 4) && decide (0 < ((wdT p (allR p).length).length : Int))) = true then wdT p (allR p).length else wdL p (allR p).length
theorem wouldR_len (p : Pos) : (wouldR p).length ≤ 20900 := by
  unfold wouldR; split
  · exact Nat.zero_le _
  · split
    · exact wdT_len p _
    · exact wdL_len p _
theorem wouldR_mem {p : Pos} {m : Mv} (h : m ∈ wouldR p) : m ∈ allR p := by
  unfold wouldR at h; split at h
  · cases h
  · split at h
    · exact List.mem_of_mem_take (List.mem_filter.1 h).1
    · exact List.mem_of_mem_take (List.mem_filter.1 h).1
theorem mvsR_ok {p : Pos} (ht : tu p ≤ 1) {a b : Nat} (ha : a < 64) (hb : b < 64) {m : Mv} (h : m ∈ mvsR p (a : Int) (b : Int)) : mF m = a ∧ mT m = b ∧ mD m = 0 ∧ mC m = false ∧ 0 ≤ mP m ∧ mP m ≤ 7 := by
  unfold mvsR at h
  split at h
  · split at h
    · rw [List.mem_singleton] at h; subst h; exact ⟨rfl, rfl, rfl, rfl, by show (0 : Int) ≤ 0; decide, by show (0 : Int) ≤ 7; decide⟩
    · obtain ⟨x, hx, rfl⟩ := List.mem_map.1 h
      refine ⟨rfl, rfl, rfl, rfl, ?_⟩
      have : 0 ≤ x ∧ x ≤ 7 := by
        unfold promP at hx
        split at hx
        · simp only [List.mem_cons, List.mem_nil_iff, or_false] at hx; omega
        · split at hx
          · simp only [List.mem_cons, List.mem_nil_iff, or_false] at hx; omega
          · cases hx
      exact this
  · cases h
theorem list13_ok {p : Pos} {m : Mv} (h : m ∈ list13 p) : tu p ≤ 1 ∧ (0 ≤ mF m ∧ mF m < 64) ∧ (0 ≤ mT m ∧ mT m < 64) ∧ mD m = 0 ∧ mC m = false ∧ 0 ≤ mP m ∧ mP m ≤ 7 := by
  unfold list13 at h
  split at h
  · cases h
  · rename_i hn
    have ht := there_tu (Bool.eq_false_iff.2 hn)
    unfold listI at h
    obtain ⟨a, ha, h⟩ := List.mem_flatMap.1 h
    obtain ⟨b, hb, h⟩ := List.mem_flatMap.1 h
    have ha := List.mem_range.1 ha
    have hb := List.mem_range.1 hb
    have := mvsR_ok ht ha hb h
    exact ⟨ht, by omega, by omega, this.2.2⟩
theorem list14_ok {p : Pos} (hp : POK p) {m : Mv} (h : m ∈ list14 p) : tu p ≤ 1 ∧ (0 ≤ mF m ∧ mF m < 64) ∧ (0 ≤ mT m ∧ mT m < 64) ∧ mD m = 0 ∧ mC m = true ∧ mP m = 0 := by
  have key : ∀ n : Nat, m ∈ (if (mayC p (1 - (n : Int))).2.2 = true then [castM (mayC p (1 - (n : Int)))] else []) → tu p ≤ 1 ∧ (0 ≤ mF m ∧ mF m < 64) ∧ (0 ≤ mT m ∧ mT m < 64) ∧ mD m = 0 ∧ mC m = true ∧ mP m = 0 := fun n h => by
    split at h
    · rename_i hc
      rw [List.mem_singleton] at h; subst h
      have hr := mayC_rng hp (1 - (n : Int))
      refine ⟨?_, hr.1, hr.2, rfl, rfl, rfl⟩
      unfold mayC at hc
      split at hc
      · cases hc
      · rename_i h1
        exact Int.not_lt.1 (of_decide_eq_false (Bool.or_eq_false_iff.1 (Bool.eq_false_iff.2 h1)).1)
    · cases h
  rcases List.mem_append.1 (show m ∈ ([] ++ _) ++ _ from h) with h | h
  · rcases List.mem_append.1 h with h | h
    · cases h
    · exact key 0 h
  · exact key 1 h
theorem list15_ok {p : Pos} {m : Mv} (h : m ∈ list15 p) : tu p ≤ 1 ∧ (0 ≤ mF m ∧ mF m < 64) ∧ (0 ≤ mT m ∧ mT m < 64) ∧ (1 ≤ mD m ∧ mD m ≤ 5 ∧ 1 ≤ pkAt p (tu p) (mD m)) ∧ mC m = false ∧ mP m = 0 := by
  unfold list15 at h
  split at h
  · cases h
  · rename_i hn
    have ht : tu p ≤ 1 := Int.not_lt.1 (of_decide_eq_false (Bool.or_eq_false_iff.1 (Bool.eq_false_iff.2 hn)).1)
    obtain ⟨k, hk, h⟩ := List.mem_flatMap.1 h
    have hk := List.mem_range.1 hk
    unfold dKind at h
    split at h
    · rename_i hpk
      obtain ⟨s, hs, h⟩ := List.mem_flatMap.1 h
      have hs := List.mem_range.1 hs
      unfold dOne at h
      split at h
      · cases h
      · rw [List.mem_singleton] at h; subst h
        exact ⟨ht, ⟨by show (0 : Int) ≤ (s : Int); omega, by show (s : Int) < 64; omega⟩, ⟨by show (0 : Int) ≤ (s : Int); omega, by show (s : Int) < 64; omega⟩, ⟨by show (1 : Int) ≤ (k : Int) + 1; omega, by show (k : Int) + 1 ≤ 5; omega, by show 1 ≤ pkAt p (tu p) ((k : Int) + 1); omega⟩, rfl, rfl⟩
    · cases h
theorem allR_mem {p : Pos} (hp : POK p) {m : Mv} (h : m ∈ allR p) : MOK m ∧ LMv p m := by
  rcases List.mem_append.1 h with h | h
  · rcases List.mem_append.1 h with h | h
    · obtain ⟨h1, h2, h3, h4, h5, h6⟩ := list13_ok h
      exact ⟨⟨by omega, by omega, by omega, by omega⟩, h1, h2, h3, h6, fun e => absurd h4 e⟩
    · obtain ⟨h1, h2, h3, h4, h5, h6⟩ := list14_ok hp h
      exact ⟨⟨by omega, by omega, by omega, by omega⟩, h1, h2, h3, by omega, fun e => absurd h4 e⟩
  · obtain ⟨h1, h2, h3, h4, h5, h6⟩ := list15_ok h
    exact ⟨⟨by omega, by omega, by omega, by omega⟩, h1, h2, h3, by omega, fun _ => ⟨⟨h4.1, h4.2.1⟩, h4.2.2⟩⟩
theorem allR_ok {p : Pos} (hp : POK p) {i : Nat} (h : i < (allR p).length) : MOK (alI p i) ∧ LMv p (alI p i) := by
  refine allR_mem hp ?_
  show (allR p).getD i (zero moveT) ∈ allR p
  rw [List.getD_eq_getElem?_getD, List.getElem?_eq_getElem h]; exact List.getElem_mem h
def winR (c w : Int) : Res := if decide (c = 0) = true then ((1 : Int), w, ()) else ((2 : Int), w, ())
def hillR (s : Int) : Bool := ((decide (s = 27) || decide (s = 28)) || decide (s = 35)) || decide (s = 36)
abbrev wrI (p : Pos) (i : Nat) : Mv := (wouldR p).getD ((i : Nat) : Int).toNat (zero moveT)
theorem would_rng {p : Pos} (hp : POK p) {i : Nat} (h : i < (wouldR p).length) : (0 ≤ mF (wrI p i) ∧ mF (wrI p i) < 64) ∧ (0 ≤ mT (wrI p i) ∧ mT (wrI p i) < 64) := by
  have hm : wrI p i ∈ wouldR p := by
    show (wouldR p).getD i (zero moveT) ∈ wouldR p
    rw [List.getD_eq_getElem?_getD, List.getElem?_eq_getElem h]; exact List.getElem_mem h
  have := (allR_mem hp (wouldR_mem hm)).2
  exact ⟨this.f, this.to⟩
def racF (p : Pos) (i : Nat) : Bool := decide (mF (wrI p i) = find p 1 6) && decide (55 < mT (wrI p i))
def racR (p : Pos) : Res :=
  if (decide (55 < find p 0 6) && decide (55 < find p 1 6)) = true then ((3 : Int), (6 : Int), ())
  else if decide (55 < find p 1 6) = true then winR 1 6
  else if (!decide (55 < find p 0 6)) = true then zero resT
  else if (decide (tu p = 1) && !okTo (racF p) (wouldR p).length) = true then zero resT else winR 0 6
theorem rac_yes {p : Pos} {i : Nat} (h : i < (wouldR p).length) (h2 : racF p i = true) (h3 : decide (tu p = 1) = true) : (decide (tu p = 1) && !okTo (racF p) (wouldR p).length) = true := by
  rw [h3, okTo_no h2 h]; rfl
theorem rac_no {p : Pos} {i : Nat} (h : i ≤ (wouldR p).length) (h2 : okTo (racF p) i = true) (h3 : 0 < i → decide (tu p = 1) = true) (h4 : (decide (((i : Nat) : Int) < ((wouldR p).length : Int)) && decide (tu p = 1)) = false) : (decide (tu p = 1) && !okTo (racF p) (wouldR p).length) = false := by
  cases e : decide (tu p = 1) with
  | false => rfl
  | true =>
    rw [e, Bool.and_true] at h4
    have := of_decide_eq_false h4
    rw [show (wouldR p).length = i by omega, h2]; rfl
def wonR (p : Pos) : Res :=
  if (!thereR p) = true then zero resT
  else if decide (vr p = 3) = true then (if decide (find p (tu p) 6 < 0) = true then winR (1 - tu p) 6 else zero resT)
  else if decide (vr p = 5) = true then (if decide (3 ≤ ckAt p (1 - tu p)) = true then winR (1 - tu p) 7 else if decide (3 ≤ ckAt p (tu p)) = true then winR (tu p) 7 else zero resT)
  else if decide (vr p = 6) = true then (if hillR (find p (1 - tu p) 6) = true then winR (1 - tu p) 6 else if hillR (find p (tu p) 6) = true then winR (tu p) 6 else zero resT)
  else if decide (vr p = 7) = true then (if (!menX p 0) = true then winR 1 8 else zero resT)
  else if decide (vr p = 4) = true then (if (!menX p (tu p)) = true then winR (tu p) 8 else if (!menX p (1 - tu p)) = true then winR (1 - tu p) 8 else zero resT)
  else if decide (vr p = 8) = true then racR p else zero resT
def list17 (p : Pos) : List Mv := if (!decide ((wonR p).1 = 0)) = true then [] else wouldR p

theorem c_ref17_King (p : Pos) (hp : POK p) (c : Int) (M : List Fact) : Pure Tryz.prog 91 [enc posT p, .int .u8 c] M (.int .i64 (find p c 6)) := by
 obtain ⟨hb, hpw, hvr, htu, hpg, hvr0, htu0⟩ := hp.head
 refine pure_of_W (n := 8) Tryz.func91 rfl rfl yn ?_
 refine w2 (fun w0 => ?_)
 refine LO_l rfl (by decide : 2 < 8) (ol_box (t := posT) rfl rfl rfl yf (fun b1 => ?_))
 refine zA ?_
 refine LO_nil (w1 ((yR (ov_load rfl rfl ye trivial rfl rfl tok31) ?_)))
 refine yM ?_
 refine yP (yV rfl rfl rfl Tryz.call88 (by apply c_ref08_Find <;> exact yz)) ?_
 refine yA_ ?_
 refine RO_nil (W_ret ⟨trivial, yb, (ResV_tmp1 rfl rfl ?_)⟩)
 rfl

theorem c_ref17_Men (p : Pos) (hp : POK p) (c : Int) (M : List Fact) : Pure Tryz.prog 94 [enc posT p, .int .u8 c] M (.bool (menX p c)) := by
 obtain ⟨hb, hpw, hvr, htu, hpg, hvr0, htu0⟩ := hp.head
 refine pure_of_W (n := 14) Tryz.func94 rfl rfl yn ?_
 refine w2 (fun w0 => ?_)
 refine LO_l rfl (by decide : 2 < 14) (ol_box (t := posT) rfl rfl rfl yf (fun b1 => ?_))
 refine zA ?_
 refine LO_nil (W_seq (w1 ((yA_ ?_))))
 refine RO_nil (W_block (W_loop (σ := Nat) (fun i => i ≤ 64 ∧ okTo (fun j : Nat => ownR p (j : Int) c) i = true) (fun i => [(1, .int .u8 c), (2, ptrv b1 posT []), (5, .int .i64 (i : Int))]) (fun i => .box b1 31 posT _ :: M) (fun i => 64 - i) (0) ⟨by omega, rfl⟩ ⟨rfl, rfl, rfl, trivial⟩ yb ?_))
 rintro i ⟨hI, hN⟩
 refine W_seq (w1 ((yM ?_)))
 refine yR (ov_lss rfl rfl rfl) ?_
 refine RO_nil (W_cond rfl (fun hc1 => ?_) (fun hc1 => ?_))
 ·
  try simp only [yS] at hc1
  refine W_skip (W_seq (W_block (w1 ((yR (ov_load rfl rfl ye trivial rfl rfl tok31) ?_)))))
  refine yM ?_
  refine yM ?_
  refine yP (yV rfl rfl rfl Tryz.call153 (by apply c_ref13_Own <;> exact yz)) ?_
  refine RO_nil (W_cond rfl (fun hc2 => ?_) (fun hc2 => ?_))
  ·
   refine w1 ((yA_ ?_))
   refine RO_nil (W_ret ⟨trivial, yb, (ResV_tmp1 rfl rfl ?_)⟩)
   first | exact val_bool (by unfold menX; rw [okTo_no (f := fun j : Nat => ownR p (j : Int) c) hc2 (by omega : i < 64)]; rfl) | exact val_bool (by unfold menX; rw [show 64 = i by omega, hN]; rfl)
  ·
   refine W_skip (W_reg (yM ?_))
   refine yR (ov_add rfl rfl rfl ya) ?_
   refine yA_ ?_
   refine RO_nil ?_
   exact ⟨i + 1, yo, ⟨by omega, okTo_next hN hc2⟩, ⟨rfl, rfl, rfl, trivial⟩, yb⟩
 ·
  try simp only [yS] at hc1
  refine W_exit (w1 ((yA_ ?_)))
  refine RO_nil (W_ret ⟨trivial, yb, (ResV_tmp1 rfl rfl ?_)⟩)
  first | exact val_bool (by unfold menX; rw [okTo_no (f := fun j : Nat => ownR p (j : Int) c) hc2 (by omega : i < 64)]; rfl) | exact val_bool (by unfold menX; rw [show 64 = i by omega, hN]; rfl)

theorem c_ref17_leaves (p : Pos) (hp : POK p) (q : Pos) (hq : POK q) (M : List Fact) (ht : tu p ≤ 1) : Pure Tryz.prog 97 [enc posT p, enc posT q] M (.bool (leavesR p q)) := by
 obtain ⟨hb, hpw, hvr, htu, hpg, hvr0, htu0⟩ := hp.head
 have ht2 := ht
 simp only [tu] at ht2
 have hqw := hq.wf
 refine pure_of_W (n := 48) Tryz.func97 rfl rfl yn ?_
 refine w2 (fun w0 => ?_)
 refine LO_l rfl (by decide : 2 < 48) (ol_box (t := posT) rfl rfl rfl yf (fun b1 => ?_))
 refine LO_l rfl (by decide : 3 < 48) (ol_box (t := posT) rfl rfl rfl yf (fun b2 => ?_))
 refine zA ?_
 refine LO_nil (W_seq (W_regd mixed yk ?_))
 refine yR (ov_fieldAddr rfl rfl fa31_4 rfl) ?_
 refine yR (ov_load rfl rfl ye ⟨trivial, yn⟩ rfl rfl tok5) ?_
 refine yR (ov_fieldAddr rfl rfl fa31_4 rfl) ?_
 refine yR (ov_load rfl rfl ye ⟨trivial, yn⟩ rfl rfl tok5) ?_
 refine yR (ov_sub rfl rfl rfl ya) ?_
 refine yA_ ?_
 refine yA_ ?_
 refine RO_nil (W_seq (w1 ((yR (ov_fieldAddr rfl rfl fa31_0 rfl) ?_))))
 refine yR (ov_load rfl rfl ye ⟨trivial, yn⟩ rfl rfl tok5) ?_
 refine yM ?_
 refine yP (yV rfl rfl rfl Tryz.call96 (by apply c_ref07_Royal <;> exact yz)) ?_
 refine RO_nil (W_cond rfl (fun hc1 => ?_) (fun hc1 => ?_))
 ·
  refine w1 ((yR (ov_fieldAddr rfl rfl fa31_0 rfl) ?_))
  refine yR (ov_load rfl rfl ye ⟨trivial, yn⟩ rfl rfl tok5) ?_
  refine yR (ov_eql rfl rfl rfl) ?_
  refine yM ?_
  refine yG (fun hg => OpX.v (ov_load rfl rfl ye trivial rfl rfl tok31)) ?_
  refine gM ?_
  refine yG (fun hg => yV rfl rfl (looks_cons (look_gv rfl (bq hg)) (looks_cons (look_gv rfl (bq hg)) looks_nil)) Tryz.call91 (c_ref17_King q hq (1 - tu p) _)) ?_
  refine yG (fun hg => OpX.v (ov_lss rfl (look_gv rfl (bq hg)) rfl)) ?_
  refine yR (ov_and rfl rfl rfl rfl (fun h => bq h)) ?_
  refine yA_ ?_
  refine RO_nil (w1 ((yR (ov_load rfl rfl ye trivial rfl rfl tok31) ?_)))
  refine yM ?_
  refine yP (yV rfl rfl rfl Tryz.call91 (c_ref17_King q hq (tu p) _)) ?_
  refine yR (ov_lss rfl rfl rfl) ?_
  refine yM ?_
  refine gM ?_
  refine yG (fun hg => OpX.v (ov_not rfl (look_gv rfl (bq hg)))) ?_
  refine yG (fun hg => OpX.v (ov_move rfl (look_gv rfl (bq hg)))) ?_
  refine RO_g rfl rfl rfl rfl rfl yd (fun hg1 hg2 => OpX.v (ov_load rfl rfl ye trivial rfl rfl tok31)) ?_
  refine RO_g rfl rfl rfl rfl rfl yd (fun hg1 hg2 => OpX.v (ov_move rfl rfl)) ?_
  refine RO_g rfl rfl rfl rfl rfl yd (fun hg1 hg2 => yV rfl rfl (looks_cons (look_gv rfl (bq2 hg1 hg2)) (looks_cons (look_gv rfl (bq2 hg1 hg2)) looks_nil)) Tryz.call58 (c_ref08_Check q hq (tu p) _ yo yo)) ?_
  refine yG (fun hg => OpX.v (ov_and rfl (look_gv rfl (bq hg)) rfl rfl (fun h => bq2 (bq hg) h))) ?_
  refine yR (ov_or rfl rfl rfl rfl (fun h => bq h)) ?_
  refine RO_nil (W_cond rfl (fun hc2 => ?_) (fun hc2 => ?_))
  ·
   refine w1 ((yA_ ?_))
   refine RO_nil (W_ret ⟨trivial, yb, (ResV_tmp1 rfl rfl ?_)⟩)
   exact xbyy
  ·
   refine W_skip (w1 ((yR (ov_fieldAddr rfl rfl fa31_0 rfl) ?_)))
   refine yR (ov_load rfl rfl ye ⟨trivial, yn⟩ rfl rfl tok5) ?_
   refine yR (ov_neq rfl rfl rfl) ?_
   refine yM ?_
   refine yG (fun hg => OpX.v (ov_load rfl rfl ye trivial rfl rfl tok31)) ?_
   refine gM ?_
   refine yG (fun hg => yV rfl rfl (looks_cons (look_gv rfl (bq hg)) (looks_cons (look_gv rfl (bq hg)) looks_nil)) Tryz.call58 (c_ref08_Check q hq (1 - tu p) _ yo yo)) ?_
   refine yG (fun hg => OpX.v (ov_not rfl (look_gv rfl (bq hg)))) ?_
   refine yR (ov_or rfl rfl rfl rfl (fun h => bq h)) ?_
   refine yA_ ?_
   refine RO_nil (W_ret ⟨trivial, yb, (ResV_tmp1 rfl rfl ?_)⟩)
   exact xbyy
 ·
  refine W_skip (w1 ((yR (ov_fieldAddr rfl rfl fa31_0 rfl) ?_)))
  refine yR (ov_load rfl rfl ye ⟨trivial, yn⟩ rfl rfl tok5) ?_
  refine yR (ov_neq rfl rfl rfl) ?_
  refine yM ?_
  refine yG (fun hg => OpX.v (ov_load rfl rfl ye trivial rfl rfl tok31)) ?_
  refine gM ?_
  refine yG (fun hg => yV rfl rfl (looks_cons (look_gv rfl (bq hg)) (looks_cons (look_gv rfl (bq hg)) looks_nil)) Tryz.call58 (c_ref08_Check q hq (1 - tu p) _ yo yo)) ?_
  refine yG (fun hg => OpX.v (ov_not rfl (look_gv rfl (bq hg)))) ?_
  refine yR (ov_or rfl rfl rfl rfl (fun h => bq h)) ?_
  refine yA_ ?_
  refine RO_nil (W_ret ⟨trivial, yb, (ResV_tmp1 rfl rfl ?_)⟩)
  exact xbyy

theorem c_ref17_Would (p : Pos) (hp : POK p) (M : List Fact) : Con Tryz.prog 44 [enc posT p] M (fun u M' => M' = .row u 55 moveT (wouldR p) :: M) := by
 obtain ⟨hb, hpw, hvr, htu, hpg, hvr0, htu0⟩ := hp.head
 have hal := allR_len p
 refine con_of_W (n := 77) Tryz.func44 rfl rfl yn ?_
 refine w2 (fun w0 => ?_)
 refine LO_l rfl (by decide : 1 < 77) (ol_box (t := posT) rfl rfl rfl yf (fun b1 => ?_))
 refine zA ?_
 refine LO_nil (W_seq (W_row 55 moveT ?_))
 refine W_row 55 moveT ?_
 refine W_reg (yA_ ?_)
 refine yA_ ?_
 refine RO_nil (W_seq (w1 ((yR (ov_load rfl rfl ye trivial rfl rfl tok31) ?_))))
 refine yP (yV rfl rfl rfl Tryz.call23 (by apply c_ref13_There <;> exact yz)) ?_
 refine yR (ov_not rfl rfl) ?_
 refine yM ?_
 refine yG (fun hg => OpX.v (ov_fieldAddr rfl rfl fa31_0 rfl)) ?_
 refine yG (fun hg => OpX.v (ov_load rfl (look_gv rfl (bq hg)) ye ⟨trivial, yn⟩ rfl rfl tok5)) ?_
 refine yG (fun hg => OpX.v (ov_fieldAddr rfl rfl fa31_4 rfl)) ?_
 refine yG (fun hg => OpX.v (ov_load rfl (look_gv rfl (bq hg)) ye ⟨trivial, yn⟩ rfl rfl tok5)) ?_
 refine yG (fun hg => yV rfl rfl (looks_cons (look_gv rfl (bq hg)) (looks_cons (look_gv rfl (bq hg)) looks_nil)) Tryz.call96 (by apply c_ref07_Royal <;> exact yz)) ?_
 refine yG (fun hg => OpX.v (ov_move rfl (look_gv rfl (bq hg)))) ?_
 refine RO_g rfl rfl rfl rfl rfl yd (fun hg1 hg2 => OpX.v (ov_load rfl rfl ye trivial rfl rfl tok31)) ?_
 refine RO_g rfl rfl rfl rfl rfl yd (fun hg1 hg2 => OpX.v (ov_fieldAddr rfl rfl fa31_4 rfl)) ?_
 refine RO_g rfl rfl rfl rfl rfl yd (fun hg1 hg2 => OpX.v (ov_load rfl (look_gv rfl (bq2 hg1 hg2)) ye ⟨trivial, yn⟩ rfl rfl tok5)) ?_
 refine RO_g rfl rfl rfl rfl rfl yd (fun hg1 hg2 => by have hgx := hg2; (try simp only [yS] at hgx); exact yV rfl rfl (looks_cons (look_gv rfl (bq2 hg1 hg2)) (looks_cons (look_gv rfl (bq2 hg1 hg2)) looks_nil)) Tryz.call91 (by apply c_ref17_King <;> exact yz)) ?_
 refine RO_g rfl rfl rfl rfl rfl yd (fun hg1 hg2 => by have hgx := hg2; (try simp only [yS] at hgx); exact OpX.v (ov_lss rfl (look_gv rfl (bq2 hg1 hg2)) rfl)) ?_
 refine yG (fun hg => OpX.v (ov_and rfl (look_gv rfl (bq hg)) rfl rfl (fun h => bq2 (bq hg) h))) ?_
 refine yR (ov_or rfl rfl rfl rfl (fun h => bq h)) ?_
 refine RO_nil (W_cond rfl (fun hc1 => ?_) (fun hc1 => ?_))
 ·
  refine w1 ((yA_ ?_))
  refine RO_nil (W_ret ⟨trivial, _, .row _ 55 moveT (wouldR p) :: M, (ResV_tmp1 rfl rfl rfl), ?_, rfl⟩)
  exact xbzy
 ·
  have ht1 : tu p ≤ 1 := there_tu (Bool.or_eq_false_iff.1 hc1).1
  refine W_skip (w2 (fun w0 => ?_))
  refine yL (ov_load rfl rfl ye trivial rfl rfl tok31) ?_
  refine LO_l rfl (by decide : 25 < 77) (ol_call (v0 := []) (v2 := []) rfl rfl rfl Tryz.call24 (Con.mono (by apply c_ref16_All <;> exact yz) ?_))
  rintro u5 _ rfl
  refine zA ?_
  refine LO_nil (W_seq (w1 ((yA_ ?_))))
  refine RO_nil (W_block (W_loop (σ := Nat × Value × Value) (fun s => s.1 ≤ (allR p).length) (fun s => [(1, ptrv b1 posT []), (5, u5), (6, .int .i64 (s.1 : Int)), (3, s.2.1), (4, s.2.2)]) (fun s => .row u5 55 moveT (allR p) :: .row s.2.1 55 moveT (wdL p s.1) :: .row s.2.2 55 moveT (wdT p s.1) :: .box b1 31 posT p :: M) (fun s => (allR p).length - s.1) ((0, .slice none 0 0, .slice none 0 0)) (by simp) ⟨rfl, rfl, rfl, rfl, rfl, trivial⟩ yb ?_))
  rintro ⟨i, v, w⟩ hI
  simp only at hI
  refine W_seq (w1 ((yM ?_)))
  refine yM ?_
  refine yR (ov_len rfl rfl xaby Tryz.underlying48) ?_
  refine yR (ov_lss rfl rfl rfl) ?_
  refine RO_nil (W_cond rfl (fun hc2 => ?_) (fun hc2 => ?_))
  ·
   try simp only [yS] at hc2
   have hmm := allR_ok hp (i := i) yo
   have hmd := POK_madeR hp hmm.1 hmm.2
   have hmv := wf_move ((allR p).getD ((i : Nat) : Int).toNat (zero moveT))
   have hl1 := wdL_len p i
   have hl2 := wdT_len p i
   refine W_skip (W_seq (W_block (W_seq (W_seq (W_regd mixed yk ?_)))))
   refine yR (ov_load rfl rfl ye trivial rfl rfl tok31) ?_
   refine yR (ov_load rfl rfl ye trivial rfl rfl tok31) ?_
   refine yM ?_
   refine yM ?_
   refine yR (ov_indexAddr_sl (t := moveT) rfl rfl xaby rfl Tryz.underlying48 Tryz.sizeOf55 ya ya) ?_
   refine yR (ov_load_e (t := moveT) (p := []) rfl rfl xaby ya trivial rfl rfl tok55) ?_
   refine yP (yV rfl rfl rfl Tryz.call56 (c_ref16_Made p hp ((allR p).getD ((i : Nat) : Int).toNat (zero moveT)) hmm.1 _ hmm.2)) ?_
   refine yP (yV rfl rfl rfl Tryz.call97 (c_ref17_leaves p hp (madeR p ((allR p).getD ((i : Nat) : Int).toNat (zero moveT))) hmd _ ht1)) ?_
   refine yR (ov_not rfl rfl) ?_
   refine RO_nil (W_cond rfl (fun hc3 => ?_) (fun hc3 => ?_))
   ·
    refine W_exit (W_reg (yM ?_))
    refine yR (ov_add rfl rfl rfl ya) ?_
    refine yA_ ?_
    refine RO_nil ?_
    exact ⟨(i + 1, _, _), xaly, xaly, ⟨rfl, rfl, rfl, rfl, rfl, trivial⟩, xaty⟩
   ·
    refine W_skip (w2 (fun w0 => ?_))
    refine zM ?_
    refine zM ?_
    refine zM ?_
    refine yL (ov_indexAddr_sl (t := moveT) rfl rfl xaby rfl Tryz.underlying48 Tryz.sizeOf55 ya ya) ?_
    refine yL (ov_load_e (t := moveT) (p := []) rfl rfl xaby ya trivial rfl rfl tok55) ?_
    refine LO_l rfl (by decide : 46 < 77) (ol_buildSlice (t := moveT) (xs := [_]) rfl rfl rfl Tryz.underlying48 tok55 xaey yd yd yd (fun v1 => ?_))
    refine LO_l rfl (by decide : 47 < 77) (ol_ap2 (t := moveT) rfl rfl rfl xaby ap48 xafy xafy (fun v2 => ?_))
    refine zA ?_
    refine LO_nil (W_seq (W_regd mixed yk ?_))
    refine yR (ov_fieldAddr rfl rfl fa31_0 rfl) ?_
    refine yR (ov_load rfl rfl ye ⟨trivial, yn⟩ rfl rfl tok5) ?_
    refine yR (ov_eql rfl rfl rfl) ?_
    refine yM ?_
    refine yG (fun hg => OpX.v (ov_load rfl rfl ye trivial rfl rfl tok31)) ?_
    refine gM ?_
    refine gM ?_
    refine yG (fun hg => OpX.v (ov_indexAddr_sl (t := moveT) rfl (look_gv rfl (bq hg)) xaby (look_gv rfl (bq hg)) Tryz.underlying48 Tryz.sizeOf55 ya ya)) ?_
    refine yG (fun hg => OpX.v (ov_load_e (t := moveT) (p := []) rfl (look_gv rfl (bq hg)) xaby ya trivial rfl rfl tok55)) ?_
    refine yG (fun hg => yV rfl rfl (looks_cons (look_gv rfl (bq hg)) (looks_cons (look_gv rfl (bq hg)) looks_nil)) Tryz.call98 (c_ref13_Taken p hp ((allR p).getD ((i : Nat) : Int).toNat (zero moveT)) hmm.1 _)) ?_
    refine yG (fun hg => OpX.v (ov_geq rfl (look_gv rfl (bq hg)) rfl)) ?_
    refine yR (ov_and rfl rfl rfl rfl (fun h => bq h)) ?_
    refine RO_nil (W_cond rfl (fun hc4 => ?_) (fun hc4 => ?_))
    ·
     refine W_regl (fun w0 => ?_)
     refine zM ?_
     refine zM ?_
     refine zM ?_
     refine yL (ov_indexAddr_sl (t := moveT) rfl rfl xaby rfl Tryz.underlying48 Tryz.sizeOf55 ya ya) ?_
     refine yL (ov_load_e (t := moveT) (p := []) rfl rfl xaby ya trivial rfl rfl tok55) ?_
     refine LO_l rfl (by decide : 65 < 77) (ol_buildSlice (t := moveT) (xs := [_]) rfl rfl rfl Tryz.underlying48 tok55 xaey yd yd yd (fun v3 => ?_))
     refine LO_l rfl (by decide : 66 < 77) (ol_ap4 (t := moveT) rfl rfl rfl xaby ap48 xafy xafy (fun v4 => ?_))
     refine zA ?_
     refine LO_nil (W_reg (yM ?_))
     refine yR (ov_add rfl rfl rfl ya) ?_
     refine yA_ ?_
     refine RO_nil ?_
     exact ⟨(i + 1, _, _), xaly, xaly, ⟨rfl, rfl, rfl, rfl, rfl, trivial⟩, xaty⟩
    ·
     refine W_skip (W_reg (yM ?_))
     refine yR (ov_add rfl rfl rfl ya) ?_
     refine yA_ ?_
     refine RO_nil ?_
     exact ⟨(i + 1, _, _), xaly, xaly, ⟨rfl, rfl, rfl, rfl, rfl, trivial⟩, xaty⟩
  ·
   try simp only [yS] at hc2
   refine W_exit (W_seq (w1 ((yR (ov_fieldAddr rfl rfl fa31_0 rfl) ?_))))
   refine yR (ov_load rfl rfl ye ⟨trivial, yn⟩ rfl rfl tok5) ?_
   refine yR (ov_eql rfl rfl rfl) ?_
   refine yM ?_
   refine gM ?_
   refine yG (fun hg => OpX.v (ov_len rfl (look_gv rfl (bq hg)) xaby Tryz.underlying48)) ?_
   refine yG (fun hg => OpX.v (ov_gtr rfl (look_gv rfl (bq hg)) rfl)) ?_
   refine yR (ov_and rfl rfl rfl rfl (fun h => bq h)) ?_
   refine RO_nil (W_cond rfl (fun hc5 => ?_) (fun hc5 => ?_))
   ·
    refine w1 ((yM ?_))
    refine yA_ ?_
    refine RO_nil (W_ret ⟨trivial, _, .row _ 55 moveT (wouldR p) :: M, (ResV_tmp1 rfl rfl rfl), ?_, rfl⟩)
    exact xbzy
   ·
    refine W_skip (w1 ((yM ?_)))
    refine yA_ ?_
    refine RO_nil (W_ret ⟨trivial, _, .row _ 55 moveT (wouldR p) :: M, (ResV_tmp1 rfl rfl rfl), ?_, rfl⟩)
    exact xbzy

theorem c_ref17_win (c w : Int) (M : List Fact) : Pure Tryz.prog 92 [.int .u8 c, .int .u8 w] M (enc resT (winR c w)) := by
 refine pure_of_W (n := 11) Tryz.func92 rfl rfl yn ?_
 refine w2 (fun w0 => ?_)
 refine LO_l rfl (by decide : 4 < 11) (ol_alloc (t := resT) rfl tok58 yf (fun b1 => ?_))
 refine LO_nil (W_seq (w1 ((yM ?_))))
 refine yR (ov_eql rfl rfl rfl) ?_
 refine RO_nil (W_cond rfl (fun hc1 => ?_) (fun hc1 => ?_))
 ·
  refine w2 (fun w0 => ?_)
  refine zM ?_
  refine yL (ov_build (fs := fs57) (ds := [⟨0, _⟩, ⟨1, _⟩]) rfl rfl bl58 ⟨yn, yf, ⟨yn, yf, trivial⟩⟩ rfl) ?_
  refine LO_l rfl trivial (ol_sw0 rfl rfl rfl rfl yf tok58 ?_)
  refine LO_nil (W_ret ⟨trivial, yb, (ResV_cell rfl rfl ye rfl tok58 ?_)⟩)
  first | exact val_enc (show winR c w = _ from if_pos hc1).symm | exact val_enc (show winR c w = _ from if_neg (Bool.eq_false_iff.1 hc1)).symm
 ·
  refine W_skip (w2 (fun w0 => ?_))
  refine zM ?_
  refine yL (ov_build (fs := fs57) (ds := [⟨0, _⟩, ⟨1, _⟩]) rfl rfl bl58 ⟨yn, yf, ⟨yn, yf, trivial⟩⟩ rfl) ?_
  refine LO_l rfl trivial (ol_sw0 rfl rfl rfl rfl yf tok58 ?_)
  refine LO_nil (W_ret ⟨trivial, yb, (ResV_cell rfl rfl ye rfl tok58 ?_)⟩)
  first | exact val_enc (show winR c w = _ from if_pos hc1).symm | exact val_enc (show winR c w = _ from if_neg (Bool.eq_false_iff.1 hc1)).symm

theorem c_ref17_hill (s : Int) (M : List Fact) : Pure Tryz.prog 93 [.int .i64 s] M (.bool (hillR s)) := by
 refine pure_of_W (n := 17) Tryz.func93 rfl rfl yn ?_
 refine w1 ((yA_ ?_))
 refine RO_nil (w1 ((yM ?_)))
 refine yR (ov_eql rfl rfl rfl) ?_
 refine yM ?_
 refine gM ?_
 refine yG (fun hg => OpX.v (ov_eql rfl (look_gv rfl (bq hg)) rfl)) ?_
 refine yR (ov_or rfl rfl rfl rfl (fun h => bq h)) ?_
 refine yM ?_
 refine gM ?_
 refine yG (fun hg => OpX.v (ov_eql rfl (look_gv rfl (bq hg)) rfl)) ?_
 refine yR (ov_or rfl rfl rfl rfl (fun h => bq h)) ?_
 refine yM ?_
 refine gM ?_
 refine yG (fun hg => OpX.v (ov_eql rfl (look_gv rfl (bq hg)) rfl)) ?_
 refine yR (ov_or rfl rfl rfl rfl (fun h => bq h)) ?_
 refine yA_ ?_
 refine RO_nil (W_ret ⟨trivial, yb, (ResV_tmp1 rfl rfl ?_)⟩)
 rfl

theorem c_ref17_racing (p : Pos) (hp : POK p) (M : List Fact) : Pure Tryz.prog 95 [enc posT p] M (enc resT (racR p)) := by
 obtain ⟨hb, hpw, hvr, htu, hpg, hvr0, htu0⟩ := hp.head
 have hwl := wouldR_len p
 have hk0 := find_rng p 0 6
 have hk1 := find_rng p 1 6
 refine pure_of_W (n := 55) Tryz.func95 rfl rfl yn ?_
 refine w2 (fun w0 => ?_)
 refine LO_l rfl (by decide : 1 < 55) (ol_box (t := posT) rfl rfl rfl yf (fun b1 => ?_))
 refine LO_l rfl (by decide : 2 < 55) (ol_alloc (t := resT) rfl tok58 yf (fun b2 => ?_))
 refine LO_nil (W_seq (W_regd mixed yk ?_))
 refine yR (ov_load rfl rfl ye trivial rfl rfl tok31) ?_
 refine yP (yV rfl rfl rfl Tryz.call91 (by apply c_ref17_King <;> exact yz)) ?_
 refine yR (ov_gtr rfl rfl rfl) ?_
 refine yR (ov_load rfl rfl ye trivial rfl rfl tok31) ?_
 refine yP (yV rfl rfl rfl Tryz.call91 (by apply c_ref17_King <;> exact yz)) ?_
 refine yR (ov_gtr rfl rfl rfl) ?_
 refine yA_ ?_
 refine yA_ ?_
 refine RO_nil (W_seq (w1 ((yM ?_))))
 refine yM ?_
 refine gM ?_
 refine yR (ov_and rfl rfl rfl rfl (fun h => bq h)) ?_
 refine RO_nil (W_cond rfl (fun hc1 => ?_) (fun hc1 => ?_))
 ·
  refine w2 (fun w0 => ?_)
  refine yL (ov_build (fs := fs57) (ds := [⟨0, _⟩, ⟨1, _⟩]) rfl rfl bl58 ⟨yn, yf, ⟨yn, yf, trivial⟩⟩ rfl) ?_
  refine LO_l rfl trivial (ol_sw0 rfl rfl rfl rfl yf tok58 ?_)
  refine LO_nil (W_ret ⟨trivial, yb, (ResV_cell rfl rfl ye rfl tok58 ?_)⟩)
  exact xcay
 ·
  refine W_skip (W_seq (w1 ((yM ?_))))
  refine RO_nil (W_cond rfl (fun hc2 => ?_) (fun hc2 => ?_))
  ·
   refine w2 (fun w0 => ?_)
   refine yQ (yV rfl rfl rfl Tryz.call92 (by apply c_ref17_win <;> exact yz)) ?_
   refine LO_l rfl trivial (ol_sw0 rfl rfl rfl rfl yf tok58 ?_)
   refine LO_nil (W_ret ⟨trivial, yb, (ResV_cell rfl rfl ye rfl tok58 ?_)⟩)
   exact xcay
  ·
   refine W_skip (W_seq (w1 ((yM ?_))))
   refine yR (ov_not rfl rfl) ?_
   refine RO_nil (W_cond rfl (fun hc3 => ?_) (fun hc3 => ?_))
   ·
    refine w2 (fun w0 => ?_)
    refine yL (ov_build (fs := fs57) (ds := []) rfl rfl bl58 trivial rfl) ?_
    refine LO_l rfl trivial (ol_sw0 rfl rfl rfl rfl yf tok58 ?_)
    refine LO_nil (W_ret ⟨trivial, yb, (ResV_cell rfl rfl ye rfl tok58 ?_)⟩)
    exact xcay
   ·
    refine W_skip (w2 (fun w0 => ?_))
    refine yL (ov_load rfl rfl ye trivial rfl rfl tok31) ?_
    refine LO_l rfl (by decide : 24 < 55) (ol_call (v0 := []) (v2 := []) rfl rfl rfl Tryz.call44 (Con.mono (by apply c_ref17_Would <;> exact yz) ?_))
    rintro u5 _ rfl
    refine zA ?_
    refine LO_nil (W_seq (w1 ((yA_ ?_))))
    refine RO_nil (W_block (W_loop (σ := Nat) (fun i => i ≤ (wouldR p).length ∧ okTo (racF p) i = true ∧ (0 < i → decide (tu p = 1) = true)) (fun i => [(1, ptrv b1 posT []), (2, ptrv b2 resT []), (5, u5), (6, .int .i64 (i : Int))]) (fun i => .row u5 55 moveT (wouldR p) :: .box b2 58 resT (zero resT) :: .box b1 31 posT p :: M) (fun i => (wouldR p).length - i) (0) ⟨by omega, rfl, fun h => absurd h yo⟩ ⟨rfl, rfl, rfl, rfl, trivial⟩ yb ?_))
    rintro i ⟨hI, hN, hZ⟩
    refine W_seq (w1 ((yM ?_)))
    refine yM ?_
    refine yR (ov_len rfl rfl xaby Tryz.underlying48) ?_
    refine yR (ov_lss rfl rfl rfl) ?_
    refine yM ?_
    refine yG (fun hg => OpX.v (ov_fieldAddr rfl rfl fa31_4 rfl)) ?_
    refine yG (fun hg => OpX.v (ov_load rfl (look_gv rfl (bq hg)) ye ⟨trivial, yn⟩ rfl rfl tok5)) ?_
    refine yG (fun hg => OpX.v (ov_eql rfl (look_gv rfl (bq hg)) rfl)) ?_
    refine yR (ov_and rfl rfl rfl rfl (fun h => bq h)) ?_
    refine RO_nil (W_cond rfl (fun hc4 => ?_) (fun hc4 => ?_))
    ·
     have hil := of_decide_eq_true (Bool.and_eq_true_iff.1 hc4).1
     have hil2 : i < (wouldR p).length := by omega
     have hwr := would_rng hp (i := i) hil2
     have hwr1 : @LE.le Int _ 0 (((wouldR p).getD ((i : Nat) : Int).toNat (zero moveT)).1) ∧ @LT.lt Int _ (((wouldR p).getD ((i : Nat) : Int).toNat (zero moveT)).1) 64 := hwr.1
     refine W_skip (W_seq (W_block (W_seq (W_regd mixed yk ?_))))
     refine yM ?_
     refine yM ?_
     refine yR (ov_indexAddr_sl (t := moveT) rfl rfl xaby rfl Tryz.underlying48 Tryz.sizeOf55 ya ya) ?_
     refine yR (ov_fieldAddr_e rfl rfl xaby ya fa55_0 rfl) ?_
     refine yR (ov_load_e (t := moveT) (p := [.fld 0]) rfl rfl xaby ya ⟨trivial, yn⟩ rfl rfl tok26) ?_
     refine yR (ov_convn rfl rfl Tryz.underlying26 Tryz.underlying3 ya) ?_
     refine yR (ov_load rfl rfl ye trivial rfl rfl tok31) ?_
     refine yP (yV rfl rfl rfl Tryz.call91 (by apply c_ref17_King <;> exact yz)) ?_
     refine yR (ov_eql rfl rfl rfl) ?_
     refine yM ?_
     refine gM ?_
     refine gM ?_
     refine yG (fun hg => OpX.v (ov_indexAddr_sl (t := moveT) rfl (look_gv rfl (bq hg)) xaby (look_gv rfl (bq hg)) Tryz.underlying48 Tryz.sizeOf55 ya ya)) ?_
     refine yG (fun hg => OpX.v (ov_fieldAddr_e rfl (look_gv rfl (bq hg)) xaby ya fa55_1 rfl)) ?_
     refine yG (fun hg => OpX.v (ov_load_e (t := moveT) (p := [.fld 1]) rfl (look_gv rfl (bq hg)) xaby ya ⟨trivial, yn⟩ rfl rfl tok26)) ?_
     refine yG (fun hg => OpX.v (ov_gtr rfl (look_gv rfl (bq hg)) rfl)) ?_
     refine yR (ov_and rfl rfl rfl rfl (fun h => bq h)) ?_
     refine RO_nil (W_cond rfl (fun hc5 => ?_) (fun hc5 => ?_))
     ·
      refine w2 (fun w0 => ?_)
      refine yL (ov_build (fs := fs57) (ds := []) rfl rfl bl58 trivial rfl) ?_
      refine LO_l rfl trivial (ol_sw1 rfl rfl rfl rfl yf tok58 ?_)
      refine LO_nil (W_ret ⟨trivial, yb, (ResV_cell rfl rfl ye rfl tok58 ?_)⟩)
      exact xcay
     ·
      refine W_skip (W_reg (yM ?_))
      refine yR (ov_add rfl rfl rfl ya) ?_
      refine yA_ ?_
      refine RO_nil ?_
      exact ⟨i + 1, yo, ⟨by omega, okTo_next hN hc5, fun _ => (Bool.and_eq_true_iff.1 hc4).2⟩, ⟨rfl, rfl, rfl, rfl, trivial⟩, yb⟩
    ·
     refine W_exit (w2 (fun w0 => ?_))
     refine yQ (yV rfl rfl rfl Tryz.call92 (by apply c_ref17_win <;> exact yz)) ?_
     refine LO_l rfl trivial (ol_sw1 rfl rfl rfl rfl yf tok58 ?_)
     refine LO_nil (W_ret ⟨trivial, yb, (ResV_cell rfl rfl ye rfl tok58 ?_)⟩)
     exact xcay

theorem c_ref17_Won (p : Pos) (hp : POK p) (M : List Fact) : Pure Tryz.prog 43 [enc posT p] M (enc resT (wonR p)) := by
 obtain ⟨hb, hpw, hvr, htu, hpg, hvr0, htu0⟩ := hp.head
 have hc0 := ckAt_rng hp (tu p)
 refine pure_of_W (n := 79) Tryz.func43 rfl rfl yn ?_
 refine w2 (fun w0 => ?_)
 refine LO_l rfl (by decide : 1 < 79) (ol_box (t := posT) rfl rfl rfl yf (fun b1 => ?_))
 refine LO_l rfl (by decide : 2 < 79) (ol_alloc (t := resT) rfl tok58 yf (fun b2 => ?_))
 refine LO_nil (W_seq (w1 ((yR (ov_load rfl rfl ye trivial rfl rfl tok31) ?_))))
 refine yP (yV rfl rfl rfl Tryz.call23 (by apply c_ref13_There <;> exact yz)) ?_
 refine yR (ov_not rfl rfl) ?_
 refine RO_nil (W_cond rfl (fun hc1 => ?_) (fun hc1 => ?_))
 ·
  refine w2 (fun w0 => ?_)
  refine yL (ov_build (fs := fs57) (ds := []) rfl rfl bl58 trivial rfl) ?_
  refine LO_l rfl trivial (ol_sw0 rfl rfl rfl rfl yf tok58 ?_)
  refine LO_nil (W_ret ⟨trivial, yb, (ResV_cell rfl rfl ye rfl tok58 ?_)⟩)
  exact xcby
 ·
  have ht1 : tu p ≤ 1 := there_tu hc1
  have ht2 := ht1
  simp only [tu] at ht2
  refine W_skip (W_seq (W_regd mixed yk ?_))
  refine yR (ov_fieldAddr rfl rfl fa31_4 rfl) ?_
  refine yR (ov_load rfl rfl ye ⟨trivial, yn⟩ rfl rfl tok5) ?_
  refine yR (ov_fieldAddr rfl rfl fa31_4 rfl) ?_
  refine yR (ov_load rfl rfl ye ⟨trivial, yn⟩ rfl rfl tok5) ?_
  refine yR (ov_sub rfl rfl rfl ya) ?_
  refine yA_ ?_
  refine yA_ ?_
  refine RO_nil (W_seq (w1 ((yR (ov_fieldAddr rfl rfl fa31_0 rfl) ?_))))
  refine yR (ov_load rfl rfl ye ⟨trivial, yn⟩ rfl rfl tok5) ?_
  refine RO_nil (W_block (w1 ((yR (ov_eql rfl rfl rfl) ?_))))
  refine yA_ ?_
  refine RO_nil (W_cond rfl (fun hc2 => ?_) (fun hc2 => ?_))
  ·
   refine w1 ((yR (ov_load rfl rfl ye trivial rfl rfl tok31) ?_))
   refine yM ?_
   refine yP (yV rfl rfl rfl Tryz.call91 (by apply c_ref17_King <;> exact yz)) ?_
   refine yR (ov_lss rfl rfl rfl) ?_
   refine RO_nil (W_cond rfl (fun hc3 => ?_) (fun hc3 => ?_))
   ·
    refine w2 (fun w0 => ?_)
    refine zM ?_
    refine yQ (yV rfl rfl rfl Tryz.call92 (by apply c_ref17_win <;> exact yz)) ?_
    refine LO_l rfl trivial (ol_sw0 rfl rfl rfl rfl yf tok58 ?_)
    refine LO_nil (W_ret ⟨trivial, yb, (ResV_cell rfl rfl ye rfl tok58 ?_)⟩)
    exact xcby
   ·
    refine W_skip (w2 (fun w0 => ?_))
    refine yL (ov_build (fs := fs57) (ds := []) rfl rfl bl58 trivial rfl) ?_
    refine LO_l rfl trivial (ol_sw0 rfl rfl rfl rfl yf tok58 ?_)
    refine LO_nil (W_ret ⟨trivial, yb, (ResV_cell rfl rfl ye rfl tok58 ?_)⟩)
    exact xcby
  ·
   refine w1 ((yR (ov_eql rfl rfl rfl) ?_))
   refine yA_ ?_
   refine RO_nil (W_cond rfl (fun hc4 => ?_) (fun hc4 => ?_))
   ·
    refine W_seq (w1 ((yM ?_)))
    refine yR (ov_fieldAddr rfl rfl fa31_7 rfl) ?_
    refine yR (ov_indexAddr rfl rfl rfl Tryz.underlying29 rfl Tryz.sizeOf5 ya ya) ?_
    refine yR (ov_load rfl rfl ye ⟨⟨trivial, yn⟩, (tn ya ya)⟩ rfl rfl tok5) ?_
    refine yR (ov_geq rfl rfl rfl) ?_
    refine RO_nil (W_cond rfl (fun hc5 => ?_) (fun hc5 => ?_))
    ·
     refine w2 (fun w0 => ?_)
     refine zM ?_
     refine yQ (yV rfl rfl rfl Tryz.call92 (by apply c_ref17_win <;> exact yz)) ?_
     refine LO_l rfl trivial (ol_sw0 rfl rfl rfl rfl yf tok58 ?_)
     refine LO_nil (W_ret ⟨trivial, yb, (ResV_cell rfl rfl ye rfl tok58 ?_)⟩)
     exact xcby
    ·
     refine W_skip (w1 ((yM ?_)))
     refine yR (ov_fieldAddr rfl rfl fa31_7 rfl) ?_
     refine yR (ov_indexAddr rfl rfl rfl Tryz.underlying29 rfl Tryz.sizeOf5 ya ya) ?_
     refine yR (ov_load rfl rfl ye ⟨⟨trivial, yn⟩, (tn ya ya)⟩ rfl rfl tok5) ?_
     refine yR (ov_geq rfl rfl rfl) ?_
     refine RO_nil (W_cond rfl (fun hc6 => ?_) (fun hc6 => ?_))
     ·
      refine w2 (fun w0 => ?_)
      refine zM ?_
      refine yQ (yV rfl rfl rfl Tryz.call92 (by apply c_ref17_win <;> exact yz)) ?_
      refine LO_l rfl trivial (ol_sw0 rfl rfl rfl rfl yf tok58 ?_)
      refine LO_nil (W_ret ⟨trivial, yb, (ResV_cell rfl rfl ye rfl tok58 ?_)⟩)
      exact xcby
     ·
      refine W_skip (w2 (fun w0 => ?_))
      refine yL (ov_build (fs := fs57) (ds := []) rfl rfl bl58 trivial rfl) ?_
      refine LO_l rfl trivial (ol_sw0 rfl rfl rfl rfl yf tok58 ?_)
      refine LO_nil (W_ret ⟨trivial, yb, (ResV_cell rfl rfl ye rfl tok58 ?_)⟩)
      exact xcby
   ·
    refine w1 ((yR (ov_eql rfl rfl rfl) ?_))
    refine yA_ ?_
    refine RO_nil (W_cond rfl (fun hc7 => ?_) (fun hc7 => ?_))
    ·
     refine W_seq (w1 ((yR (ov_load rfl rfl ye trivial rfl rfl tok31) ?_)))
     refine yM ?_
     refine yP (yV rfl rfl rfl Tryz.call91 (by apply c_ref17_King <;> exact yz)) ?_
     refine yP (yV rfl rfl rfl Tryz.call93 (by apply c_ref17_hill <;> exact yz)) ?_
     refine RO_nil (W_cond rfl (fun hc8 => ?_) (fun hc8 => ?_))
     ·
      refine w2 (fun w0 => ?_)
      refine zM ?_
      refine yQ (yV rfl rfl rfl Tryz.call92 (by apply c_ref17_win <;> exact yz)) ?_
      refine LO_l rfl trivial (ol_sw0 rfl rfl rfl rfl yf tok58 ?_)
      refine LO_nil (W_ret ⟨trivial, yb, (ResV_cell rfl rfl ye rfl tok58 ?_)⟩)
      exact xcby
     ·
      refine W_skip (w1 ((yR (ov_load rfl rfl ye trivial rfl rfl tok31) ?_)))
      refine yM ?_
      refine yP (yV rfl rfl rfl Tryz.call91 (by apply c_ref17_King <;> exact yz)) ?_
      refine yP (yV rfl rfl rfl Tryz.call93 (by apply c_ref17_hill <;> exact yz)) ?_
      refine RO_nil (W_cond rfl (fun hc9 => ?_) (fun hc9 => ?_))
      ·
       refine w2 (fun w0 => ?_)
       refine zM ?_
       refine yQ (yV rfl rfl rfl Tryz.call92 (by apply c_ref17_win <;> exact yz)) ?_
       refine LO_l rfl trivial (ol_sw0 rfl rfl rfl rfl yf tok58 ?_)
       refine LO_nil (W_ret ⟨trivial, yb, (ResV_cell rfl rfl ye rfl tok58 ?_)⟩)
       exact xcby
      ·
       refine W_skip (w2 (fun w0 => ?_))
       refine yL (ov_build (fs := fs57) (ds := []) rfl rfl bl58 trivial rfl) ?_
       refine LO_l rfl trivial (ol_sw0 rfl rfl rfl rfl yf tok58 ?_)
       refine LO_nil (W_ret ⟨trivial, yb, (ResV_cell rfl rfl ye rfl tok58 ?_)⟩)
       exact xcby
    ·
     refine w1 ((yR (ov_eql rfl rfl rfl) ?_))
     refine yA_ ?_
     refine RO_nil (W_cond rfl (fun hc10 => ?_) (fun hc10 => ?_))
     ·
      refine w1 ((yR (ov_load rfl rfl ye trivial rfl rfl tok31) ?_))
      refine yP (yV rfl rfl rfl Tryz.call94 (by apply c_ref17_Men <;> exact yz)) ?_
      refine yR (ov_not rfl rfl) ?_
      refine RO_nil (W_cond rfl (fun hc11 => ?_) (fun hc11 => ?_))
      ·
       refine w2 (fun w0 => ?_)
       refine yQ (yV rfl rfl rfl Tryz.call92 (by apply c_ref17_win <;> exact yz)) ?_
       refine LO_l rfl trivial (ol_sw0 rfl rfl rfl rfl yf tok58 ?_)
       refine LO_nil (W_ret ⟨trivial, yb, (ResV_cell rfl rfl ye rfl tok58 ?_)⟩)
       exact xcby
      ·
       refine W_skip (w2 (fun w0 => ?_))
       refine yL (ov_build (fs := fs57) (ds := []) rfl rfl bl58 trivial rfl) ?_
       refine LO_l rfl trivial (ol_sw0 rfl rfl rfl rfl yf tok58 ?_)
       refine LO_nil (W_ret ⟨trivial, yb, (ResV_cell rfl rfl ye rfl tok58 ?_)⟩)
       exact xcby
     ·
      refine w1 ((yR (ov_eql rfl rfl rfl) ?_))
      refine yA_ ?_
      refine RO_nil (W_cond rfl (fun hc12 => ?_) (fun hc12 => ?_))
      ·
       refine W_seq (w1 ((yR (ov_load rfl rfl ye trivial rfl rfl tok31) ?_)))
       refine yM ?_
       refine yP (yV rfl rfl rfl Tryz.call94 (by apply c_ref17_Men <;> exact yz)) ?_
       refine yR (ov_not rfl rfl) ?_
       refine RO_nil (W_cond rfl (fun hc13 => ?_) (fun hc13 => ?_))
       ·
        refine w2 (fun w0 => ?_)
        refine zM ?_
        refine yQ (yV rfl rfl rfl Tryz.call92 (by apply c_ref17_win <;> exact yz)) ?_
        refine LO_l rfl trivial (ol_sw0 rfl rfl rfl rfl yf tok58 ?_)
        refine LO_nil (W_ret ⟨trivial, yb, (ResV_cell rfl rfl ye rfl tok58 ?_)⟩)
        exact xcby
       ·
        refine W_skip (w1 ((yR (ov_load rfl rfl ye trivial rfl rfl tok31) ?_)))
        refine yM ?_
        refine yP (yV rfl rfl rfl Tryz.call94 (by apply c_ref17_Men <;> exact yz)) ?_
        refine yR (ov_not rfl rfl) ?_
        refine RO_nil (W_cond rfl (fun hc14 => ?_) (fun hc14 => ?_))
        ·
         refine w2 (fun w0 => ?_)
         refine zM ?_
         refine yQ (yV rfl rfl rfl Tryz.call92 (by apply c_ref17_win <;> exact yz)) ?_
         refine LO_l rfl trivial (ol_sw0 rfl rfl rfl rfl yf tok58 ?_)
         refine LO_nil (W_ret ⟨trivial, yb, (ResV_cell rfl rfl ye rfl tok58 ?_)⟩)
         exact xcby
        ·
         refine W_skip (w2 (fun w0 => ?_))
         refine yL (ov_build (fs := fs57) (ds := []) rfl rfl bl58 trivial rfl) ?_
         refine LO_l rfl trivial (ol_sw0 rfl rfl rfl rfl yf tok58 ?_)
         refine LO_nil (W_ret ⟨trivial, yb, (ResV_cell rfl rfl ye rfl tok58 ?_)⟩)
         exact xcby
      ·
       refine w1 ((yR (ov_eql rfl rfl rfl) ?_))
       refine yA_ ?_
       refine RO_nil (W_cond rfl (fun hc15 => ?_) (fun hc15 => ?_))
       ·
        refine w2 (fun w0 => ?_)
        refine yL (ov_load rfl rfl ye trivial rfl rfl tok31) ?_
        refine yQ (yV rfl rfl rfl Tryz.call95 (by apply c_ref17_racing <;> exact yz)) ?_
        refine LO_l rfl trivial (ol_sw0 rfl rfl rfl rfl yf tok58 ?_)
        refine LO_nil (W_ret ⟨trivial, yb, (ResV_cell rfl rfl ye rfl tok58 ?_)⟩)
        exact xcby
       ·
        refine W_skip (w2 (fun w0 => ?_))
        refine yL (ov_build (fs := fs57) (ds := []) rfl rfl bl58 trivial rfl) ?_
        refine LO_l rfl trivial (ol_sw0 rfl rfl rfl rfl yf tok58 ?_)
        refine LO_nil (W_ret ⟨trivial, yb, (ResV_cell rfl rfl ye rfl tok58 ?_)⟩)
        exact xcby

theorem c_ref17_List (p : Pos) (hp : POK p) (M : List Fact) : Con Tryz.prog 18 [enc posT p] M (fun u M' => M' = .row u 55 moveT (list17 p) :: M) := by
 obtain ⟨hb, hpw, hvr, htu, hpg, hvr0, htu0⟩ := hp.head
 refine con_of_W (n := 11) Tryz.func18 rfl rfl yn ?_
 refine W_seq (W_row 55 moveT ?_)
 refine W_regl (fun w0 => ?_)
 refine LO_l rfl (by decide : 1 < 11) (ol_box (t := posT) rfl rfl rfl yf (fun b1 => ?_))
 refine zA ?_
 refine LO_nil (w2 (fun w0 => ?_))
 refine yL (ov_load rfl rfl ye trivial rfl rfl tok31) ?_
 refine yQ (yV rfl rfl rfl Tryz.call43 (by apply c_ref17_Won <;> exact yz)) ?_
 refine LO_l rfl (by decide : 3 < 11) (ol_alloc (t := resT) rfl tok58 yf (fun b2 => ?_))
 refine LO_l rfl trivial (ol_sw0 rfl rfl rfl rfl yf tok58 ?_)
 refine LO_nil (W_seq (w1 ((yR (ov_fieldAddr rfl rfl fa58_0 rfl) ?_))))
 refine yR (ov_load rfl rfl ye ⟨trivial, yn⟩ rfl rfl tok5) ?_
 refine yR (ov_neq rfl rfl rfl) ?_
 refine RO_nil (W_cond rfl (fun hc1 => ?_) (fun hc1 => ?_))
 ·
  refine w1 ((yA_ ?_))
  refine RO_nil (W_ret ⟨trivial, _, .row _ 55 moveT (list17 p) :: M, (ResV_tmp1 rfl rfl rfl), ?_, rfl⟩)
  first | (rw [show list17 p = _ from if_pos hc1]; exact yb) | (rw [show list17 p = _ from if_neg (Bool.eq_false_iff.1 hc1)]; exact yb)
 ·
  refine W_skip (w2 (fun w0 => ?_))
  refine yL (ov_load rfl rfl ye trivial rfl rfl tok31) ?_
  refine LO_l rfl (by decide : 10 < 11) (ol_call (v0 := []) (v2 := []) rfl rfl rfl Tryz.call44 (Con.mono (by apply c_ref17_Would <;> exact yz) ?_))
  rintro u5 _ rfl
  refine zA ?_
  refine LO_nil (W_ret ⟨trivial, _, .row _ 55 moveT (list17 p) :: M, (ResV_tmp1 rfl rfl rfl), ?_, rfl⟩)
  first | (rw [show list17 p = _ from if_pos hc1]; exact yb) | (rw [show list17 p = _ from if_neg (Bool.eq_false_iff.1 hc1)]; exact yb)
end Go.Kw
set_option linter.unusedVariables false
namespace Go.Kw
open Go.Proofs
theorem eqt3_ (d : Nat) : EqT Tryz.prog (d + 1) 3 i64 := Tryz.underlying3
theorem eqt92_ (d : Nat) : EqT Tryz.prog (d + 2) 92 (.ar 2 i64) := eqt_ar (d := d + 1) Tryz.underlying92 rfl rfl tok3 (eqt3_ d)
theorem eqt92 : EqT Tryz.prog 6 92 (.ar 2 i64) := eqt92_ 4
theorem eqg92 : Tryz.prog.eqGuardType Tryz.prog.depth 92 = false := by kernel_rfl

def clsR (p : Pos) (i : Nat) : Nat := if kind (pb p (i : Int)) = 0 then 0 else if kind (pb p (i : Int)) = 6 then 1 else if kind (pb p (i : Int)) = 2 then 2 else if kind (pb p (i : Int)) = 3 then (if ((i : Int) / 8 + (i : Int) % 8) % 2 = 0 then 3 else 4) else 5
def cntF (f : Nat → Bool) : Nat → Int
  | 0 => 0
  | n + 1 => if f n = true then cntF f n + 1 else cntF f n
theorem cntF_y {f : Nat → Bool} {n : Nat} (h : f n = true) : cntF f (n + 1) = cntF f n + 1 := by rw [cntF, if_pos h]
theorem cntF_n {f : Nat → Bool} {n : Nat} (h : f n = false) : cntF f (n + 1) = cntF f n := by rw [cntF, if_neg xasy]
theorem cntF_rng (f : Nat → Bool) : ∀ n : Nat, 0 ≤ cntF f n ∧ cntF f n ≤ n
  | 0 => ⟨by show (0 : Int) ≤ 0; decide, by show (0 : Int) ≤ 0; decide⟩
  | n + 1 => by
    have := cntF_rng f n
    rw [cntF]; split <;> omega
def cntC (p : Pos) (c : Nat) (i : Nat) : Int := cntF (fun j => decide (clsR p j = c)) i
theorem cntC_rng (p : Pos) (c : Nat) (i : Nat) : 0 ≤ cntC p c i ∧ cntC p c i ≤ i := cntF_rng _ i
theorem cnt_y {p : Pos} {i c : Nat} (h : clsR p i = c) : cntC p c (i + 1) = cntC p c i + 1 := cntF_y (decide_eq_true h)
theorem cnt_n {p : Pos} {i c d : Nat} (h : clsR p i = c) (hn : ¬ c = d) : cntC p d (i + 1) = cntC p d i := cntF_n (decide_eq_false (by rw [h]; exact hn))
def kgF (p : Pos) (c : Int) (j : Nat) : Bool := decide (clsR p j = 1) && decide (pb p (j : Int) / 8 = c)
def kgL (p : Pos) (i : Nat) : List (El i64) := ([cntF (kgF p 0) i, cntF (kgF p 1) i] : List Int)
theorem kgL_wf (p : Pos) (i : Nat) : wf (.ar 2 i64) (kgL p i) := ⟨rfl, fun _ _ => trivial⟩
theorem kgL_rng (p : Pos) (i : Nat) (h : i ≤ 64) (c : Int) : 0 ≤ (show List Int from kgL p i).getD c.toNat 0 ∧ (show List Int from kgL p i).getD c.toNat 0 ≤ 64 := by
    have h0 := cntF_rng (kgF p 0) i
    have h1 := cntF_rng (kgF p 1) i
    generalize c.toNat = k
    match k with
    | 0 => exact ⟨h0.1, by show cntF (kgF p 0) i ≤ 64; omega⟩
    | 1 => exact ⟨h1.1, by show cntF (kgF p 1) i ≤ 64; omega⟩
    | k + 2 => exact ⟨by show (0 : Int) ≤ 0; decide, by show (0 : Int) ≤ 64; decide⟩
theorem king_col {p : Pos} (hp : POK p) (i : Nat) (h : kind (pb p (i : Int)) = 6) : pb p (i : Int) / 8 = 0 ∨ pb p (i : Int) / 8 = 1 := by
  have := hp.board i
  have e : pb p (i : Int) = (bd p).getD i 0 := rfl
  rw [e] at h ⊢
  unfold kind at h
  split at h
  · cases h
  · rename_i hc
    simp only [Bool.or_eq_true, decide_eq_true_eq] at hc
    omega
theorem kgL_n {p : Pos} {i c : Nat} (h : clsR p i = c) (hn : ¬ c = 1) : kgL p (i + 1) = kgL p i := by
  have e : ∀ x, kgF p x i = false := fun x => by unfold kgF; rw [h, decide_eq_false hn]; rfl
  show ([cntF (kgF p 0) (i + 1), cntF (kgF p 1) (i + 1)] : List Int) = _
  rw [cntF_n (e 0), cntF_n (e 1)]; rfl
theorem kgL_y {p : Pos} {i : Nat} (h : clsR p i = 1) (hc : pb p (i : Int) / 8 = 0 ∨ pb p (i : Int) / 8 = 1) : kgL p (i + 1) = (show List Int from kgL p i).set (pb p (i : Int) / 8).toNat ((show List Int from kgL p i).getD (pb p (i : Int) / 8).toNat 0 + 1) := by
  show ([cntF (kgF p 0) (i + 1), cntF (kgF p 1) (i + 1)] : List Int) = _
  rcases hc with e | e
  · rw [cntF_y (show kgF p 0 i = true by unfold kgF; rw [h, e]; rfl), cntF_n (show kgF p 1 i = false by unfold kgF; rw [h, e]; rfl), e]; rfl
  · rw [cntF_n (show kgF p 0 i = false by unfold kgF; rw [h, e]; rfl), cntF_y (show kgF p 1 i = true by unfold kgF; rw [h, e]; rfl), e]; rfl
def fewR (p : Pos) : Bool := decide (cntC p 5 64 = 0) && (decide ((cntC p 2 64 + cntC p 3 64) + cntC p 4 64 ≤ 1) || (decide (cntC p 2 64 = 0) && (decide (cntC p 3 64 = 0) || decide (cntC p 4 64 = 0))))
def oneR2 (p : Pos) : Bool := decide (((cntC p 5 64 + cntC p 2 64) + cntC p 3 64) + cntC p 4 64 = 0) && eqv (.ar 2 i64) (kgL p 64) ([1, 1] : List Int)
def matR (p : Pos) : Bool := if (decide (vr p = 0) || decide (vr p = 1)) = true then fewR p else if (decide (vr p = 3) || decide (vr p = 5)) = true then oneR2 p else false
theorem mat_a {a b : Bool} (h : a = true) : (a || b) = true := by rw [h]; rfl
theorem mat_d {a b : Bool} (h : a = false) : (a || b) = b := by rw [h]; rfl
def drawR (w : Int) : Res := ((3 : Int), w, ())
def mineR (p : Pos) : Int := if decide (tu p = 1) = true then 2 else 1
def othR (p : Pos) : Int := if decide (tu p = 1) = true then 1 else 2
def outX (p : Pos) : Res :=
  if (!thereR p) = true then zero resT
  else if (!decide ((wonR p).1 = 0)) = true then wonR p
  else if decide (((list17 p).length : Int) = 0) = true then
    (if decide (vr p = 4) = true then (mineR p, (8 : Int), ()) else if refCheck p (tu p) = true then (othR p, (1 : Int), ()) else drawR 2)
  else if matR p = true then drawR 3 else if decide (150 ≤ hf p) = true then drawR 4 else zero resT
theorem list17_len (p : Pos) : (list17 p).length ≤ 20900 := by
  unfold list17; split
  · exact Nat.zero_le _
  · exact wouldR_len p

theorem c_ref19_Material (p : Pos) (hp : POK p) (M : List Fact) : Pure Tryz.prog 59 [enc posT p] M (.bool (matR p)) := by
 obtain ⟨hb, hpw, hvr, htu, hpg, hvr0, htu0⟩ := hp.head
 refine pure_of_W (n := 96) Tryz.func59 rfl rfl yn ?_
 refine w2 (fun w0 => ?_)
 refine LO_l rfl (by decide : 1 < 96) (ol_box (t := posT) rfl rfl rfl yf (fun b1 => ?_))
 refine zA ?_
 refine LO_nil (w2 (fun w0 => ?_))
 refine yL (ov_buildA (t := i64) (ds := []) rfl rfl bl92 trivial rfl) ?_
 refine LO_l rfl (by decide : 3 < 96) (ol_alloc (t := (.ar 2 i64)) rfl tok92 yf (fun b2 => ?_))
 refine LO_l rfl trivial (ol_sw0 rfl rfl rfl rfl yf tok92 ?_)
 refine LO_nil (w1 ((yA_ ?_)))
 refine yA_ ?_
 refine yA_ ?_
 refine yA_ ?_
 refine RO_nil (W_seq (w1 ((yA_ ?_))))
 refine RO_nil (W_block (W_loop (σ := Nat) (fun s5 => s5 ≤ 64) (fun s5 => [(1, ptrv b1 posT []), (3, ptrv b2 (.ar 2 i64) []), (4, .int .i64 (cntC p 2 s5)), (5, .int .i64 (cntC p 3 s5)), (6, .int .i64 (cntC p 4 s5)), (7, .int .i64 (cntC p 5 s5)), (8, .int .i64 (s5 : Int))]) (fun s5 => .box b2 92 (.ar 2 i64) (kgL p s5) :: .box b1 31 posT p :: M) (fun s5 => 64 - s5) (0) (by simp) ⟨rfl, rfl, rfl, rfl, rfl, rfl, rfl, trivial⟩ yb ?_))
 rintro i hI
 refine W_seq (w1 ((yM ?_)))
 refine yR (ov_lss rfl rfl rfl) ?_
 refine RO_nil (W_cond rfl (fun hc1 => ?_) (fun hc1 => ?_))
 ·
  try simp only [yS] at hc1
  have hk0 := cntC_rng p 2 i
  have hk1 := cntC_rng p 3 i
  have hk2 := cntC_rng p 4 i
  have hk3 := cntC_rng p 5 i
  have hkw := kgL_wf p i
  refine W_skip (W_seq (W_block (w1 ((yM ?_)))))
  refine yR (ov_fieldAddr rfl rfl fa31_1 rfl) ?_
  refine yR (ov_indexAddr rfl rfl rfl Tryz.underlying22 rfl Tryz.sizeOf5 ya ya) ?_
  refine yR (ov_load rfl rfl ye ⟨⟨trivial, yn⟩, (tn ya ya)⟩ rfl rfl tok5) ?_
  refine yP (yV rfl rfl rfl Tryz.call84 xany) ?_
  refine RO_nil (W_block (w1 ((yR (ov_eql rfl rfl rfl) ?_))))
  refine yA_ ?_
  refine RO_nil (W_cond rfl (fun hc2 => ?_) (fun hc2 => ?_))
  ·
   try simp only [yS] at hc2
   have hcl : clsR p i = 0 := if_pos hc2
   refine W_skip (W_reg (yM ?_))
   refine yR (ov_add rfl rfl rfl ya) ?_
   refine yA_ ?_
   refine RO_nil ?_
   exact ⟨i + 1, yo, yo, ⟨rfl, rfl, xajy, xajy, xajy, xajy, rfl, trivial⟩, xauy⟩
  ·
   try simp only [yS] at hc2
   refine w1 ((yR (ov_eql rfl rfl rfl) ?_))
   refine yA_ ?_
   refine RO_nil (W_cond rfl (fun hc3 => ?_) (fun hc3 => ?_))
   ·
    try simp only [yS] at hc3
    have hcl : clsR p i = 1 := (if_neg hc2).trans (if_pos hc3)
    have hcl2 := king_col hp i hc3
    have hcl3 : @Eq Int (@HDiv.hDiv Int Int Int _ (p.2.1.getD ((i : Nat) : Int).toNat (zero u8)) 8) 0 ∨ @Eq Int (@HDiv.hDiv Int Int Int _ (p.2.1.getD ((i : Nat) : Int).toNat (zero u8)) 8) 1 := hcl2
    have hkg := kgL_rng p i hI (pb p (i : Int) / 8)
    have hkg0 : @LE.le Int _ 0 ((kgL p i).getD (@HDiv.hDiv Int Int Int _ (p.2.1.getD ((i : Nat) : Int).toNat (zero u8)) 8).toNat (zero i64)) ∧ @LE.le Int _ ((kgL p i).getD (@HDiv.hDiv Int Int Int _ (p.2.1.getD ((i : Nat) : Int).toNat (zero u8)) 8).toNat (zero i64)) 64 := hkg
    refine W_regl (fun w0 => ?_)
    refine zM ?_
    refine yL (ov_fieldAddr rfl rfl fa31_1 rfl) ?_
    refine yL (ov_indexAddr rfl rfl rfl Tryz.underlying22 rfl Tryz.sizeOf5 ya ya) ?_
    refine yL (ov_load rfl rfl ye ⟨⟨trivial, yn⟩, (tn ya ya)⟩ rfl rfl tok5) ?_
    refine yQ (yV rfl rfl rfl Tryz.call131 (by apply c_ref08_Color <;> exact yz)) ?_
    refine yL (ov_indexAddr rfl rfl rfl Tryz.underlying92 rfl Tryz.sizeOf3 ya ya) ?_
    refine yL (ov_load rfl rfl ye ⟨trivial, (tn ya ya)⟩ rfl rfl tok3) ?_
    refine yL (ov_add rfl rfl rfl ya) ?_
    refine yL (ov_indexAddr rfl rfl rfl Tryz.underlying92 rfl Tryz.sizeOf3 ya ya) ?_
    refine LO_l rfl trivial (ol_st0 rfl rfl rfl ⟨trivial, (tn ya ya)⟩ rfl yf tok3 ?_)
    refine LO_nil (W_reg (yM ?_))
    refine yR (ov_add rfl rfl rfl ya) ?_
    refine yA_ ?_
    refine RO_nil ?_
    exact ⟨i + 1, yo, yo, ⟨rfl, rfl, xajy, xajy, xajy, xajy, rfl, trivial⟩, xauy⟩
   ·
    try simp only [yS] at hc3
    refine w1 ((yR (ov_eql rfl rfl rfl) ?_))
    refine yA_ ?_
    refine RO_nil (W_cond rfl (fun hc4 => ?_) (fun hc4 => ?_))
    ·
     try simp only [yS] at hc4
     have hcl : clsR p i = 2 := (if_neg hc2).trans ((if_neg hc3).trans (if_pos hc4))
     refine W_reg (yM ?_)
     refine yR (ov_add rfl rfl rfl ya) ?_
     refine yA_ ?_
     refine RO_nil (W_reg (yM ?_))
     refine yR (ov_add rfl rfl rfl ya) ?_
     refine yA_ ?_
     refine RO_nil ?_
     exact ⟨i + 1, yo, yo, ⟨rfl, rfl, xajy, xajy, xajy, xajy, rfl, trivial⟩, xauy⟩
    ·
     try simp only [yS] at hc4
     refine w1 ((yR (ov_eql rfl rfl rfl) ?_))
     refine yA_ ?_
     refine RO_nil (W_cond rfl (fun hc5 => ?_) (fun hc5 => ?_))
     ·
      try simp only [yS] at hc5
      refine w1 ((yM ?_))
      refine yR (ov_quo_pos rfl rfl rfl ya ya ya) ?_
      refine yM ?_
      refine yR (ov_rem_pos rfl rfl rfl ya ya) ?_
      refine yR (ov_add rfl rfl rfl ya) ?_
      refine yR (ov_rem_pos rfl rfl rfl ya ya) ?_
      refine yR (ov_eql rfl rfl rfl) ?_
      refine RO_nil (W_cond rfl (fun hc6 => ?_) (fun hc6 => ?_))
      ·
       try simp only [yS] at hc6
       have hcl : clsR p i = 3 := (if_neg hc2).trans ((if_neg hc3).trans ((if_neg hc4).trans ((if_pos hc5).trans (if_pos hc6))))
       refine W_reg (yM ?_)
       refine yR (ov_add rfl rfl rfl ya) ?_
       refine yA_ ?_
       refine RO_nil (W_reg (yM ?_))
       refine yR (ov_add rfl rfl rfl ya) ?_
       refine yA_ ?_
       refine RO_nil ?_
       exact ⟨i + 1, yo, yo, ⟨rfl, rfl, xajy, xajy, xajy, xajy, rfl, trivial⟩, xauy⟩
      ·
       try simp only [yS] at hc6
       have hcl : clsR p i = 4 := (if_neg hc2).trans ((if_neg hc3).trans ((if_neg hc4).trans ((if_pos hc5).trans (if_neg hc6))))
       refine W_reg (yM ?_)
       refine yR (ov_add rfl rfl rfl ya) ?_
       refine yA_ ?_
       refine RO_nil (W_reg (yM ?_))
       refine yR (ov_add rfl rfl rfl ya) ?_
       refine yA_ ?_
       refine RO_nil ?_
       exact ⟨i + 1, yo, yo, ⟨rfl, rfl, xajy, xajy, xajy, xajy, rfl, trivial⟩, xauy⟩
     ·
      try simp only [yS] at hc5
      have hcl : clsR p i = 5 := (if_neg hc2).trans ((if_neg hc3).trans ((if_neg hc4).trans (if_neg hc5)))
      refine W_reg (yM ?_)
      refine yR (ov_add rfl rfl rfl ya) ?_
      refine yA_ ?_
      refine RO_nil (W_reg (yM ?_))
      refine yR (ov_add rfl rfl rfl ya) ?_
      refine yA_ ?_
      refine RO_nil ?_
      exact ⟨i + 1, yo, yo, ⟨rfl, rfl, xajy, xajy, xajy, xajy, rfl, trivial⟩, xauy⟩
 ·
  try simp only [yS] at hc1
  have hi64 : i = 64 := by omega
  subst hi64
  have hk0 := cntC_rng p 2 64
  have hk1 := cntC_rng p 3 64
  have hk2 := cntC_rng p 4 64
  have hk3 := cntC_rng p 5 64
  have hkw := kgL_wf p 64
  refine W_exit (W_seq (w1 ((yR (ov_fieldAddr rfl rfl fa31_0 rfl) ?_))))
  refine yR (ov_load rfl rfl ye ⟨trivial, yn⟩ rfl rfl tok5) ?_
  refine RO_nil (W_block (W_cut [(3, ptrv b2 (.ar 2 i64) []), (4, .int .i64 (cntC p 2 64)), (5, .int .i64 (cntC p 3 64)), (6, .int .i64 (cntC p 4 64)), (7, .int .i64 (cntC p 5 64)), (53, .int .u8 (vr p)), (54, .bool (decide (vr p = 0) || decide (vr p = 1)))] (.box b2 92 (.ar 2 i64) (kgL p 64) :: .box b1 31 posT p :: M) ?_ ?_))
  ·
   refine w1 ((yR (ov_eql rfl rfl rfl) ?_))
   refine yA_ ?_
   refine RO_nil (W_cond rfl (fun hc7 => ?_) (fun hc7 => ?_))
   ·
    refine W_skip ?_
    exact ⟨⟨rfl, rfl, rfl, rfl, rfl, rfl, (by first | exact congrArg some (val_bool (hc7.trans (mat_a hc7).symm)) | exact congrArg some (val_bool (mat_d hc7).symm)), trivial⟩, yb⟩
   ·
    refine W_reg (yR (ov_eql rfl rfl rfl) ?_)
    refine yA_ ?_
    refine RO_nil ?_
    exact ⟨⟨rfl, rfl, rfl, rfl, rfl, rfl, (by first | exact congrArg some (val_bool (hc7.trans (mat_a hc7).symm)) | exact congrArg some (val_bool (mat_d hc7).symm)), trivial⟩, yb⟩
  ·
   refine W_cond rfl (fun hc8 => ?_) (fun hc8 => ?_)
   ·
    refine w1 ((yM ?_))
    refine yM ?_
    refine yR (ov_add rfl rfl rfl ya) ?_
    refine yM ?_
    refine yR (ov_add rfl rfl rfl ya) ?_
    refine yR (ov_leq rfl rfl rfl) ?_
    refine yA_ ?_
    refine RO_nil (w1 ((yM ?_)))
    refine yR (ov_eql rfl rfl rfl) ?_
    refine yM ?_
    refine gM ?_
    refine yG (fun hg => OpX.v (ov_move rfl (look_gv rfl (bq hg)))) ?_
    refine RO_g rfl rfl rfl rfl rfl yd (fun hg1 hg2 => OpX.v (ov_move rfl rfl)) ?_
    refine RO_g rfl rfl rfl rfl rfl yd (fun hg1 hg2 => OpX.v (ov_eql rfl (look_gv rfl (bq2 hg1 hg2)) rfl)) ?_
    refine RO_g rfl rfl rfl rfl rfl yd (fun hg1 hg2 => OpX.v (ov_move rfl (look_gv rfl (bq2 hg1 hg2)))) ?_
    refine RO_g rfl rfl rfl rfl rfl yd (fun hg1 hg2 => OpX.v (ov_move rfl rfl)) ?_
    refine RO_g rfl rfl rfl rfl rfl yd (fun hg1 hg2 => OpX.v (ov_eql rfl (look_gv rfl (bq2 hg1 hg2)) rfl)) ?_
    refine RO_g rfl rfl rfl rfl rfl yd (fun hg1 hg2 => OpX.v (ov_move rfl (look_gv rfl (bq2 hg1 hg2)))) ?_
    refine RO_g rfl rfl rfl rfl rfl yd (fun hg1 hg2 => OpX.v (ov_move rfl rfl)) ?_
    refine RO_g rfl rfl rfl rfl rfl yd (fun hg1 hg2 => OpX.v (ov_eql rfl (look_gv rfl (bq2 hg1 hg2)) rfl)) ?_
    refine RO_g rfl rfl rfl rfl rfl yd (fun hg1 hg2 => OpX.v (ov_or rfl (look_gv rfl (bq2 hg1 hg2)) rfl rfl (fun h => bq2 (bq2 hg1 hg2) h))) ?_
    refine RO_g rfl rfl rfl rfl rfl yd (fun hg1 hg2 => OpX.v (ov_and rfl (look_gv rfl (bq2 hg1 hg2)) rfl rfl (fun h => bq2 (bq2 hg1 hg2) h))) ?_
    refine yG (fun hg => OpX.v (ov_or rfl (look_gv rfl (bq hg)) rfl rfl (fun h => bq2 (bq hg) h))) ?_
    refine yR (ov_and rfl rfl rfl rfl (fun h => bq h)) ?_
    refine yA_ ?_
    refine RO_nil (W_ret ⟨trivial, yb, (ResV_tmp1 rfl rfl ?_)⟩)
    exact xccy
   ·
    refine W_cut [(3, ptrv b2 (.ar 2 i64) []), (4, .int .i64 (cntC p 2 64)), (5, .int .i64 (cntC p 3 64)), (6, .int .i64 (cntC p 4 64)), (7, .int .i64 (cntC p 5 64)), (80, .bool (decide (vr p = 3) || decide (vr p = 5)))] (.box b2 92 (.ar 2 i64) (kgL p 64) :: .box b1 31 posT p :: M) ?_ ?_
    ·
     refine w1 ((yR (ov_eql rfl rfl rfl) ?_))
     refine yA_ ?_
     refine RO_nil (W_cond rfl (fun hc9 => ?_) (fun hc9 => ?_))
     ·
      refine W_skip ?_
      exact ⟨⟨rfl, rfl, rfl, rfl, rfl, (by first | exact congrArg some (val_bool (hc9.trans (mat_a hc9).symm)) | exact congrArg some (val_bool (mat_d hc9).symm)), trivial⟩, yb⟩
     ·
      refine W_reg (yR (ov_eql rfl rfl rfl) ?_)
      refine yA_ ?_
      refine RO_nil ?_
      exact ⟨⟨rfl, rfl, rfl, rfl, rfl, (by first | exact congrArg some (val_bool (hc9.trans (mat_a hc9).symm)) | exact congrArg some (val_bool (mat_d hc9).symm)), trivial⟩, yb⟩
    ·
     refine W_cond rfl (fun hc10 => ?_) (fun hc10 => ?_)
     ·
      refine w1 ((yM ?_))
      refine yM ?_
      refine yR (ov_add rfl rfl rfl ya) ?_
      refine yM ?_
      refine yR (ov_add rfl rfl rfl ya) ?_
      refine yM ?_
      refine yR (ov_add rfl rfl rfl ya) ?_
      refine yR (ov_eql rfl rfl rfl) ?_
      refine yM ?_
      refine yG (fun hg => OpX.v (ov_load rfl rfl ye trivial rfl rfl tok92)) ?_
      refine yG (fun hg => OpX.v (ov_buildA (t := i64) (ds := [(0, _), (1, _)]) rfl rfl bl92 ⟨yn, yf, ⟨yn, yf, trivial⟩⟩ rfl)) ?_
      refine yG (fun hg => OpX.v (ov_eqlA (t := (.ar 2 i64)) (d := 6) rfl (look_gv rfl (bq hg)) (look_gv rfl (bq hg)) rfl yn eqt92 eqg92 yf yf)) ?_
      refine yR (ov_and rfl rfl rfl rfl (fun h => bq h)) ?_
      refine yA_ ?_
      refine RO_nil (W_ret ⟨trivial, yb, (ResV_tmp1 rfl rfl ?_)⟩)
      exact xccy
     ·
      refine W_skip (w1 ((yA_ ?_)))
      refine RO_nil (W_ret ⟨trivial, yb, (ResV_tmp1 rfl rfl ?_)⟩)
      exact xccy

theorem c_ref19_Of (p : Pos) (hp : POK p) (M : List Fact) : Pure Tryz.prog 22 [enc posT p] M (enc resT (outX p)) := by
 obtain ⟨hb, hpw, hvr, htu, hpg, hvr0, htu0⟩ := hp.head
 have hll := list17_len p
 refine pure_of_W (n := 43) Tryz.func22 rfl rfl yn ?_
 refine w2 (fun w0 => ?_)
 refine LO_l rfl (by decide : 1 < 43) (ol_box (t := posT) rfl rfl rfl yf (fun b1 => ?_))
 refine LO_l rfl (by decide : 2 < 43) (ol_alloc (t := resT) rfl tok58 yf (fun b2 => ?_))
 refine LO_nil (W_seq (w1 ((yR (ov_load rfl rfl ye trivial rfl rfl tok31) ?_))))
 refine yP (yV rfl rfl rfl Tryz.call23 (by apply c_ref13_There <;> exact yz)) ?_
 refine yR (ov_not rfl rfl) ?_
 refine RO_nil (W_cond rfl (fun hc1 => ?_) (fun hc1 => ?_))
 ·
  refine w2 (fun w0 => ?_)
  refine yL (ov_build (fs := fs57) (ds := []) rfl rfl bl58 trivial rfl) ?_
  refine LO_l rfl trivial (ol_sw0 rfl rfl rfl rfl yf tok58 ?_)
  refine LO_nil (W_ret ⟨trivial, yb, (ResV_cell rfl rfl ye rfl tok58 ?_)⟩)
  exact xcdy
 ·
  have ht1 : tu p ≤ 1 := there_tu hc1
  have ht2 := ht1
  simp only [tu] at ht2
  refine W_skip (w2 (fun w0 => ?_))
  refine yL (ov_load rfl rfl ye trivial rfl rfl tok31) ?_
  refine yQ (yV rfl rfl rfl Tryz.call43 (by apply c_ref17_Won <;> exact yz)) ?_
  refine LO_l rfl (by decide : 3 < 43) (ol_alloc (t := resT) rfl tok58 yf (fun b3 => ?_))
  refine LO_l rfl trivial (ol_sw0 rfl rfl rfl rfl yf tok58 ?_)
  refine LO_nil (W_seq (w1 ((yR (ov_fieldAddr rfl rfl fa58_0 rfl) ?_))))
  refine yR (ov_load rfl rfl ye ⟨trivial, yn⟩ rfl rfl tok5) ?_
  refine yR (ov_neq rfl rfl rfl) ?_
  refine RO_nil (W_cond rfl (fun hc2 => ?_) (fun hc2 => ?_))
  ·
   refine w2 (fun w0 => ?_)
   refine yL (ov_load rfl rfl ye trivial rfl rfl tok58) ?_
   refine LO_l rfl trivial (ol_sw1 rfl rfl rfl rfl yf tok58 ?_)
   refine LO_nil (W_ret ⟨trivial, yb, (ResV_cell rfl rfl ye rfl tok58 ?_)⟩)
   exact xcdy
  ·
   refine W_skip (W_seq (w2 (fun w0 => ?_)))
   refine yL (ov_load rfl rfl ye trivial rfl rfl tok31) ?_
   refine LO_l rfl (by decide : 17 < 43) (ol_call (v0 := []) (v2 := []) rfl rfl rfl Tryz.call18 (Con.mono (by apply c_ref17_List <;> exact yz) ?_))
   rintro u5 _ rfl
   refine yL (ov_len rfl rfl xaby Tryz.underlying48) ?_
   refine yL (ov_eql rfl rfl rfl) ?_
   refine LO_nil (W_cond rfl (fun hc3 => ?_) (fun hc3 => ?_))
   ·
    refine w1 ((yA_ ?_))
    refine yA_ ?_
    refine RO_nil (W_cut [(1, ptrv b1 posT []), (2, ptrv b2 resT []), (4, .int .u8 (mineR p)), (5, .int .u8 (othR p))] (.row u5 55 moveT (list17 p) :: .box b3 58 resT (wonR p) :: .box b2 58 resT (zero resT) :: .box b1 31 posT p :: M) ?_ ?_)
    ·
     refine w1 ((yR (ov_fieldAddr rfl rfl fa31_4 rfl) ?_))
     refine yR (ov_load rfl rfl ye ⟨trivial, yn⟩ rfl rfl tok5) ?_
     refine yR (ov_eql rfl rfl rfl) ?_
     refine RO_nil (W_cond rfl (fun hc4 => ?_) (fun hc4 => ?_))
     ·
      refine w1 ((yA_ ?_))
      refine RO_nil (W_reg (yA_ ?_))
      refine RO_nil ?_
      exact ⟨⟨rfl, rfl, (by first | exact congrArg some (val_u8 (show mineR p = _ from if_pos hc4).symm) | exact congrArg some (val_u8 (show mineR p = _ from if_neg (Bool.eq_false_iff.1 hc4)).symm)), (by first | exact congrArg some (val_u8 (show othR p = _ from if_pos hc4).symm) | exact congrArg some (val_u8 (show othR p = _ from if_neg (Bool.eq_false_iff.1 hc4)).symm)), trivial⟩, yb⟩
     ·
      refine W_skip ?_
      exact ⟨⟨rfl, rfl, (by first | exact congrArg some (val_u8 (show mineR p = _ from if_pos hc4).symm) | exact congrArg some (val_u8 (show mineR p = _ from if_neg (Bool.eq_false_iff.1 hc4)).symm)), (by first | exact congrArg some (val_u8 (show othR p = _ from if_pos hc4).symm) | exact congrArg some (val_u8 (show othR p = _ from if_neg (Bool.eq_false_iff.1 hc4)).symm)), trivial⟩, yb⟩
    ·
     refine W_seq (w1 ((yR (ov_fieldAddr rfl rfl fa31_0 rfl) ?_)))
     refine yR (ov_load rfl rfl ye ⟨trivial, yn⟩ rfl rfl tok5) ?_
     refine yR (ov_eql rfl rfl rfl) ?_
     refine RO_nil (W_cond rfl (fun hc5 => ?_) (fun hc5 => ?_))
     ·
      refine w2 (fun w0 => ?_)
      refine zM ?_
      refine yL (ov_build (fs := fs57) (ds := [⟨0, _⟩, ⟨1, _⟩]) rfl rfl bl58 ⟨yn, yf, ⟨yn, yf, trivial⟩⟩ rfl) ?_
      refine LO_l rfl trivial (ol_sw2 rfl rfl rfl rfl yf tok58 ?_)
      refine LO_nil (W_ret ⟨trivial, yb, (ResV_cell rfl rfl ye rfl tok58 ?_)⟩)
      exact xcdy
     ·
      refine W_skip (W_seq (w1 ((yR (ov_load rfl rfl ye trivial rfl rfl tok31) ?_))))
      refine yR (ov_fieldAddr rfl rfl fa31_4 rfl) ?_
      refine yR (ov_load rfl rfl ye ⟨trivial, yn⟩ rfl rfl tok5) ?_
      refine yP (yV rfl rfl rfl Tryz.call58 (by apply c_ref08_Check <;> exact yz)) ?_
      refine RO_nil (W_cond rfl (fun hc6 => ?_) (fun hc6 => ?_))
      ·
       refine w2 (fun w0 => ?_)
       refine zM ?_
       refine yL (ov_build (fs := fs57) (ds := [⟨0, _⟩, ⟨1, _⟩]) rfl rfl bl58 ⟨yn, yf, ⟨yn, yf, trivial⟩⟩ rfl) ?_
       refine LO_l rfl trivial (ol_sw2 rfl rfl rfl rfl yf tok58 ?_)
       refine LO_nil (W_ret ⟨trivial, yb, (ResV_cell rfl rfl ye rfl tok58 ?_)⟩)
       exact xcdy
      ·
       refine W_skip (w2 (fun w0 => ?_))
       refine yL (ov_build (fs := fs57) (ds := [⟨0, _⟩, ⟨1, _⟩]) rfl rfl bl58 ⟨yn, yf, ⟨yn, yf, trivial⟩⟩ rfl) ?_
       refine LO_l rfl trivial (ol_sw2 rfl rfl rfl rfl yf tok58 ?_)
       refine LO_nil (W_ret ⟨trivial, yb, (ResV_cell rfl rfl ye rfl tok58 ?_)⟩)
       exact xcdy
   ·
    refine W_skip (W_seq (w1 ((yR (ov_load rfl rfl ye trivial rfl rfl tok31) ?_))))
    refine yP (yV rfl rfl rfl Tryz.call59 (by apply c_ref19_Material <;> exact yz)) ?_
    refine RO_nil (W_cond rfl (fun hc7 => ?_) (fun hc7 => ?_))
    ·
     refine w2 (fun w0 => ?_)
     refine yL (ov_build (fs := fs57) (ds := [⟨0, _⟩, ⟨1, _⟩]) rfl rfl bl58 ⟨yn, yf, ⟨yn, yf, trivial⟩⟩ rfl) ?_
     refine LO_l rfl trivial (ol_sw2 rfl rfl rfl rfl yf tok58 ?_)
     refine LO_nil (W_ret ⟨trivial, yb, (ResV_cell rfl rfl ye rfl tok58 ?_)⟩)
     exact xcdy
    ·
     refine W_skip (W_seq (w1 ((yR (ov_fieldAddr rfl rfl fa31_8 rfl) ?_))))
     refine yR (ov_load rfl rfl ye ⟨trivial, yn⟩ rfl rfl tok3) ?_
     refine yR (ov_geq rfl rfl rfl) ?_
     refine RO_nil (W_cond rfl (fun hc8 => ?_) (fun hc8 => ?_))
     ·
      refine w2 (fun w0 => ?_)
      refine yL (ov_build (fs := fs57) (ds := [⟨0, _⟩, ⟨1, _⟩]) rfl rfl bl58 ⟨yn, yf, ⟨yn, yf, trivial⟩⟩ rfl) ?_
      refine LO_l rfl trivial (ol_sw2 rfl rfl rfl rfl yf tok58 ?_)
      refine LO_nil (W_ret ⟨trivial, yb, (ResV_cell rfl rfl ye rfl tok58 ?_)⟩)
      exact xcdy
     ·
      refine W_skip (w2 (fun w0 => ?_))
      refine yL (ov_build (fs := fs57) (ds := []) rfl rfl bl58 trivial rfl) ?_
      refine LO_l rfl trivial (ol_sw2 rfl rfl rfl rfl yf tok58 ?_)
      refine LO_nil (W_ret ⟨trivial, yb, (ResV_cell rfl rfl ye rfl tok58 ?_)⟩)
      exact xcdy
end Go.Kw
set_option linter.unusedVariables false
namespace Go.Kw
open Go.Proofs
theorem ap46 : AppOK Tryz.prog 46 31 posT 120 := ⟨⟨_, Tryz.underlying46, rfl, rfl, rfl, rfl⟩, by decide⟩

def stR (p : Pos) : List Pos := if (!decide ((outX p).1 = 0)) = true then [] else (list17 p).map (madeR p)
def nextR (qs : List (El posT)) : List (El posT) := (show List Pos from qs).flatMap stR
theorem list17_mem {p : Pos} {m : Mv} (h : m ∈ list17 p) : m ∈ allR p := by
  unfold list17 at h; split at h
  · cases h
  · exact wouldR_mem h
theorem stR_ok {p : Pos} (hp : POK p) {q : Pos} (h : q ∈ stR p) : POK q := by
  unfold stR at h; split at h
  · cases h
  · obtain ⟨m, hm, rfl⟩ := List.mem_map.1 h
    have := allR_mem hp (list17_mem hm)
    exact POK_madeR hp this.1 this.2
def lvR : Nat → Pos → List (El posT)
  | 0, p => [p]
  | n + 1, p => nextR (lvR n p)
end Go.Kw
set_option linter.unusedVariables false
namespace Go.Kw
theorem filter_flat {α β : Type} (f : α → Bool) (g : α → List β) : ∀ l : List α, (l.filter f).flatMap g = l.flatMap fun x => if f x = true then g x else []
  | [] => rfl
  | x :: l => by
    rw [List.filter_cons, List.flatMap_cons]
    cases h : f x with
    | true => rw [if_pos rfl, if_pos rfl, List.flatMap_cons, filter_flat f g l]
    | false => rw [if_neg (by simp), if_neg (by simp), filter_flat f g l]; rfl
theorem bits_flat {β : Type} (b : BitVec 64) (g : Int → List β) : (show List Int from bitsOf b).flatMap g = (List.range 64).flatMap fun i : Nat => if b.getLsbD i = true then g (i : Int) else [] := by
  rw [bitsOf_from 64 0 b rfl (by intro j hj; omega)]
  show (List.map _ (List.filter _ (List.range' 0 64))).flatMap g = _
  rw [← List.range_eq_range']
  have e : ∀ l : List Nat, (l.map fun i => ((i : Nat) : Int)).flatMap g = l.flatMap fun i : Nat => g (i : Int) := fun l => by
    induction l with
    | nil => rfl
    | cons x l ih => simp only [List.map_cons, List.flatMap_cons, ih]
  rw [e, filter_flat]
theorem flat_congr {α β : Type} {f g : α → List β} : ∀ {l : List α}, (∀ x ∈ l, f x = g x) → l.flatMap f = l.flatMap g
  | [], _ => rfl
  | x :: l, h => by
    rw [List.flatMap_cons, List.flatMap_cons, h x List.mem_cons_self, flat_congr fun y hy => h y (List.mem_cons_of_mem _ hy)]
theorem own_bit (p : Pos) (c : Int) {t : Nat} (ht : t < 64) : (ofB p c 0).getLsbD t = ownR p (t : Int) c := ofB_own p c ht
theorem ofInt_nat {x : Int} (h0 : 0 ≤ x) (h1 : x < 64) : (BitVec.ofInt 64 x).toNat = x.toNat := by
  rw [BitVec.toNat_ofInt]; omega
theorem bitAt_get (b : BitVec 64) {x : Int} (h0 : 0 ≤ x) (h1 : x < 64) : bitAt b x = b.getLsbD x.toNat := by
  unfold bitAt
  rw [ofInt_nat h0 h1, Int.toNat_natCast]
  have e : (b >>> x.toNat) &&& 1#64 = if b.getLsbD x.toNat = true then 1#64 else 0#64 := by
    apply BitVec.eq_of_getLsbD_eq
    intro t ht
    rw [BitVec.getLsbD_and, BitVec.getLsbD_ushiftRight, BitVec.getLsbD_one]
    by_cases h : t = 0
    · subst h
      cases hb : b.getLsbD x.toNat <;> simp [hb]
    · cases hb : b.getLsbD x.toNat <;> simp [h]
  rw [e]
  cases b.getLsbD x.toNat <;> decide
theorem shlB_eq {x : Int} (h0 : 0 ≤ x) (h1 : x < 64) {t : Nat} (ht : t < 64) : (shlB x).getLsbD t = decide ((t : Int) = x) := by
  rw [← oneB_bit h0 h1 ht]
  unfold shlB oneB
  rw [ofInt_nat h0 h1, Int.toNat_natCast, if_neg yo]
section
variable {p : Pos} (hp : POK p) (ht : tu p ≤ 1)
include hp ht
theorem own_oth : ofB p (tu p) 0 ||| ofB p (1 - tu p) 0 = allB p := by
  apply BitVec.eq_of_getLsbD_eq
  intro t h
  have h0 := hp.tu
  rw [BitVec.getLsbD_or, ofB_own p _ h, ofB_own p _ h, allB_bit p h]
  by_cases hk : kind (pb p (t : Int)) = 0
  · rw [decide_eq_true hk]; rfl
  · rw [decide_eq_false hk]
    have hb := hp.board t
    have := kind_c (x := pb p (t : Int)) (show 0 ≤ (bd p).getD t 0 from hb.1) hk
    by_cases e : pb p (t : Int) / 8 = tu p
    · rw [decide_eq_true e]; rfl
    · rw [decide_eq_false e, decide_eq_true (show pb p (t : Int) / 8 = 1 - tu p by omega)]; rfl
theorem rank_eq {s : Int} (h0 : 0 ≤ s) (h1 : s < 64) : rankP (tu p) s = rankR (tu p) s := by
  have h2 := hp.tu
  have hx := (xor56 h0 h1).1
  unfold rankP rankR
  by_cases e : tu p = 1
  · rw [if_pos e, if_neg yo, hx]
  · rw [if_neg e, if_pos yo]
theorem ahead_eq (s : Int) : aheadP (tu p) s = s + upR (tu p) := by
  have h2 := hp.tu
  unfold aheadP upR
  by_cases e : tu p = 1
  · rw [if_pos e, if_neg yo]; omega
  · rw [if_neg e, if_pos yo]
omit ht in
theorem pass_bit {t : Nat} (h : t < 64) : (passB p).getLsbD t = decide (pg p = (t : Int)) := by
  unfold passB
  split
  · rename_i h1
    simp only [Bool.or_eq_true, decide_eq_true_eq] at h1
    rw [decide_eq_false yo]; simp
  · rename_i h1
    simp only [Bool.or_eq_true, decide_eq_true_eq, not_or] at h1
    rw [shlB_eq yo yo h]
    by_cases e : (t : Int) = pg p
    · rw [decide_eq_true e, decide_eq_true e.symm]
    · rw [decide_eq_false e, decide_eq_false (fun x => e x.symm)]
theorem pawn_bits {a b : Nat} (ha : a < 64) (hb : b < 64) (hk : kind (pb p (a : Int)) = 1) (hc : pb p (a : Int) / 8 = tu p) :
    (pawnTo p (ofB p (tu p) 0) (ofB p (1 - tu p) 0) (a : Int)).getLsbD b = pawnR p (a : Int) (b : Int) := by
  have h2 := hp.tu
  have hup := upR_val (tu p)
  have hup2 : upR (tu p) = if tu p = 0 then 8 else -8 := rfl
  have hrk := rank_eq hp ht (s := (a : Int)) yo yo
  have hh : hits p (a : Int) (b : Int) = pawnHit (tu p) (a : Int) (b : Int) := by rw [hits_eq, if_pos hk, hc]
  have hcap := (pawnB_b (s := (a : Int)) yo yo hb h2.1 ht).1
  have hcap2 : (pawnB (tu p) (a : Int) &&& (ofB p (1 - tu p) 0 ||| passB p)).getLsbD b = (hits p (a : Int) (b : Int) && (ownR p (b : Int) (1 - tu p) || decide (pg p = (b : Int)))) := by
    rw [BitVec.getLsbD_and, BitVec.getLsbD_or, own_bit p _ hb, pass_bit hp hb, hcap, hh]
  have hall : ∀ x : Int, 0 ≤ x → x < 64 → bitAt (allB p) x = !emptyR p x := fun x x0 x1 => by
    rw [bitAt_get _ x0 x1, allB_bit p yo, Int.toNat_of_nonneg x0]; rfl
  have hnorm : pawnHit (tu p) (a : Int) (b : Int) = true → ¬ (b : Int) = (a : Int) + upR (tu p) ∧ ¬ (b : Int) = (a : Int) + 2 * upR (tu p) := fun h => by
    unfold pawnHit at h
    have has : asideOf (a : Int) (b : Int) = 1 := by
      split at h <;> (simp only [Bool.and_eq_true, decide_eq_true_eq] at h; exact h.2)
    unfold asideOf iabs at has
    split at has <;> omega
  have hr0 : rankR (tu p) (a : Int) = if tu p = 0 then (a : Int) / 8 else 7 - (a : Int) / 8 := rfl
  unfold pawnTo
  rw [hrk, ahead_eq hp ht, ahead_eq hp ht, own_oth hp ht]
  unfold pawnR
  rw [hh]
  rw [hh] at hcap2
  by_cases h7 : rankR (tu p) (a : Int) = 7
  · rw [if_pos (decide_eq_true h7), hcap2]
    cases hx : pawnHit (tu p) (a : Int) (b : Int) with
    | true => rfl
    | false =>
      rw [if_neg (by simp)]
      have n1 : ¬ (b : Int) = (a : Int) + upR (tu p) := by
        rw [hup2]; rw [hr0] at h7; split <;> split at h7 <;> omega
      have n2 : ¬ (b : Int) = (a : Int) + 2 * upR (tu p) := by
        rw [hup2]; rw [hr0] at h7; split <;> split at h7 <;> omega
      rw [decide_eq_false n1, decide_eq_false n2]; rfl
  · rw [if_neg (by rw [decide_eq_false h7]; simp)]
    have hin : 0 ≤ (a : Int) + upR (tu p) ∧ (a : Int) + upR (tu p) < 64 := by
      rw [hup2]; rw [hr0] at h7; split <;> split at h7 <;> omega
    have hahead := hall _ hin.1 hin.2
    have hsh := shlB_eq hin.1 hin.2 hb
    rw [hahead]
    cases he : emptyR p ((a : Int) + upR (tu p)) with
    | false =>
      rw [if_pos (by rfl), hcap2]
      cases hx : pawnHit (tu p) (a : Int) (b : Int) with
      | true => rfl
      | false =>
        rw [if_neg (by simp)]
        by_cases e1 : (b : Int) = (a : Int) + upR (tu p)
        · rw [if_pos (decide_eq_true e1), e1, he]; rfl
        · rw [if_neg (by rw [decide_eq_false e1]; simp)]; simp
    | true =>
      rw [if_neg (by simp)]
      generalize hD : (decide (rankR (tu p) (a : Int) = 1) || ((decide (rankR (tu p) (a : Int) = 0) && decide (vr p = 7)) && decide (tu p = 0))) = D
      cases D with
      | false =>
        rw [if_neg (by simp), BitVec.getLsbD_or, hcap2, hsh]
        cases hx : pawnHit (tu p) (a : Int) (b : Int) with
        | true =>
          have := hnorm hx
          rw [if_pos rfl, decide_eq_false this.1]; simp
        | false =>
          rw [if_neg (by simp)]
          by_cases e1 : (b : Int) = (a : Int) + upR (tu p)
          · rw [if_pos (decide_eq_true e1), decide_eq_true e1, e1, he]; rfl
          · rw [if_neg (by rw [decide_eq_false e1]; simp), decide_eq_false e1]; simp
      | true =>
        have hin2 : 0 ≤ (a : Int) + upR (tu p) + upR (tu p) ∧ (a : Int) + upR (tu p) + upR (tu p) < 64 := by
          simp only [Bool.or_eq_true, Bool.and_eq_true, decide_eq_true_eq] at hD
          rw [hup2]; rw [hr0] at hD; split <;> split at hD <;> omega
        have hsh2 := shlB_eq hin2.1 hin2.2 hb
        rw [if_pos rfl, BitVec.getLsbD_or, BitVec.getLsbD_or, hcap2, hsh, BitVec.getLsbD_and, hsh2, BitVec.getLsbD_not, allB_bit p hb]
        simp only [hb, decide_true, Bool.true_and]
        have e3 : (!!decide (kind (pb p (b : Int)) = 0)) = emptyR p (b : Int) := by rw [Bool.not_not]; rfl
        rw [e3]
        cases hx : pawnHit (tu p) (a : Int) (b : Int) with
        | true =>
          have := hnorm hx
          rw [if_pos rfl, decide_eq_false this.1, decide_eq_false (show ¬ (b : Int) = (a : Int) + upR (tu p) + upR (tu p) by omega)]; simp
        | false =>
          rw [if_neg (by simp)]
          by_cases e1 : (b : Int) = (a : Int) + upR (tu p)
          · rw [if_pos (decide_eq_true e1), decide_eq_true e1, e1, he]; rfl
          · rw [if_neg (by rw [decide_eq_false e1]; simp), decide_eq_false e1]
            by_cases e2 : (b : Int) = (a : Int) + 2 * upR (tu p)
            · rw [decide_eq_true e2, decide_eq_true (show (b : Int) = (a : Int) + upR (tu p) + upR (tu p) by omega)]; simp
            · rw [decide_eq_false e2, decide_eq_false (show ¬ (b : Int) = (a : Int) + upR (tu p) + upR (tu p) by omega)]; simp
theorem may_bits {a b : Nat} (ha : a < 64) (hb : b < 64) : mayR p (a : Int) (b : Int) = ((ofB p (tu p) 0).getLsbD a && (toP p (ofB p (tu p) 0) (ofB p (1 - tu p) 0) (a : Int)).getLsbD b) := by
  have h2 := hp.tu
  rw [own_bit p _ ha]
  unfold mayR
  cases ho : ownR p (a : Int) (tu p) with
  | false => rw [if_pos (by simp)]; rfl
  | true =>
    cases hob : ownR p (b : Int) (tu p) with
    | true =>
      rw [if_pos (by simp)]
      unfold toP
      rw [BitVec.getLsbD_and, BitVec.getLsbD_not, own_bit p _ hb, hob]; simp
    | false =>
      have hab : ¬ (a : Int) = (b : Int) := fun e => by rw [e, hob] at ho; cases ho
      rw [if_neg (by rw [decide_eq_false hab]; simp)]
      obtain ⟨ho1, ho2⟩ := Bool.and_eq_true_iff.1 ho
      have hc := of_decide_eq_true ho2
      have hk0 : ¬ kind (pb p (a : Int)) = 0 := ndec ho1
      have hr := kind_le (pb p (a : Int))
      rw [Bool.true_and]
      unfold toP
      rw [BitVec.getLsbD_and, BitVec.getLsbD_not, own_bit p _ hb, hob, own_oth hp ht]
      simp only [hb, decide_true, Bool.not_false, Bool.and_true]
      have : kind (pb p (a : Int)) = 1 ∨ kind (pb p (a : Int)) = 2 ∨ kind (pb p (a : Int)) = 3 ∨ kind (pb p (a : Int)) = 4 ∨ kind (pb p (a : Int)) = 5 ∨ kind (pb p (a : Int)) = 6 := by omega
      rcases this with h | h | h | h | h | h
      · rw [if_pos (decide_eq_true h), if_pos h]; exact (pawn_bits hp ht ha hb h hc).symm
      · rw [if_neg (by rw [h]; decide), if_neg (by rw [h]; decide), if_neg yo, if_pos h, (knightB_b yo yo hb).1, hits_eq, if_neg yo, if_pos h]
      · rw [if_neg (by rw [h]; decide), if_neg (by rw [h]; decide), if_neg yo, if_neg yo, if_pos h, bishop_from yo yo hb, hits_eq, if_neg yo, if_neg yo, if_neg yo, if_neg yo, if_pos h]
      · rw [if_neg (by rw [h]; decide), if_neg (by rw [h]; decide), if_neg yo, if_neg yo, if_neg yo, if_pos h, rook_from yo yo hb, hits_eq, if_neg yo, if_neg yo, if_neg yo, if_pos h]
      · rw [if_neg (by rw [h]; decide), if_neg (by rw [h]; decide), if_neg yo, if_neg yo, if_neg yo, if_neg yo, if_pos h, queen_from yo yo hb, hits_eq, if_neg yo, if_neg yo, if_neg yo, if_neg yo, if_neg yo, if_pos h]
      · rw [if_neg (by rw [h]; decide), if_pos (decide_eq_true h), if_neg yo, if_neg yo, if_neg yo, if_neg yo, if_neg yo, if_pos h, hits_eq, if_neg yo, if_neg yo, if_pos h]
        by_cases hv : vr p = 3
        · rw [if_pos hv, decide_eq_true hv, BitVec.getLsbD_and, BitVec.getLsbD_not, (kingB_b yo yo hb).1, own_bit p _ hb]
          simp only [hb, decide_true, Bool.true_and, Bool.not_true, Bool.false_or]
          congr 1
          have e1 : (allB p).getLsbD b = ((ofB p (tu p) 0).getLsbD b || (ofB p (1 - tu p) 0).getLsbD b) := by rw [← own_oth hp ht, BitVec.getLsbD_or]
          rw [allB_bit p hb, own_bit p _ hb, own_bit p _ hb, hob, Bool.false_or] at e1
          rw [← e1, Bool.not_not]; rfl
        · rw [if_neg hv, decide_eq_false hv, (kingB_b yo yo hb).1]; simp
theorem each_mvs {a b : Nat} (ha : a < 64) (hb : b < 64) : eachL p ((a : Int), (b : Int), (0 : Int), (0 : Int), false, ()) = if oneR p (a : Int) (b : Int) = true then [mvR (a : Int) (b : Int)] else (show List Int from promP (vr p)).map (setProm (mvR (a : Int) (b : Int))) := by
  show (if (!decide (kind (pb p (a : Int)) = 1) || !decide (rankP (tu p) (b : Int) = 7)) = true then _ else _) = _
  rw [rank_eq hp ht yo yo]; rfl
end
theorem pseudo_ref {p : Pos} (hp : POK p) : pseudoL p = list13 p := by
  unfold pseudoL list13 ofS
  by_cases hn : (decide (1 < tu p) || decide (9 ≤ vr p)) = true
  · have : thereR p = false := by
      unfold thereR
      rw [Bool.or_eq_true] at hn
      rcases hn with h | h
      · rw [decide_eq_false (show ¬ tu p < 2 by have := of_decide_eq_true h; omega), Bool.and_false]
      · rw [decide_eq_false (show ¬ vr p < 9 by have := of_decide_eq_true h; omega), Bool.false_and]
    rw [if_pos hn, this]; rfl
  · have hn' := Bool.eq_false_iff.2 hn
    obtain ⟨e1, e2⟩ := Bool.or_eq_false_iff.1 hn'
    have ht : tu p ≤ 1 := Int.not_lt.1 (of_decide_eq_false e1)
    have hv : ¬ 9 ≤ vr p := of_decide_eq_false e2
    have : thereR p = true := by
      unfold thereR
      rw [decide_eq_true (show vr p < 9 by omega), decide_eq_true (show tu p < 2 by omega)]; rfl
    rw [if_neg hn, this, if_pos rfl, if_neg (by simp)]
    unfold movesL listI
    rw [bits_flat]
    refine flat_congr fun a ha => ?_
    have ha := List.mem_range.1 ha
    unfold rowR
    cases ho : (ofB p (tu p) 0).getLsbD a with
    | false =>
      rw [if_neg (by simp)]
      symm
      rw [List.flatMap_eq_nil_iff]
      intro b hb
      have hb := List.mem_range.1 hb
      unfold mvsR
      rw [may_bits hp ht ha hb, ho, if_neg (by simp)]
    | true =>
      rw [if_pos rfl]
      unfold stepL
      rw [bits_flat]
      refine flat_congr fun b hb => ?_
      have hb := List.mem_range.1 hb
      unfold mvsR
      rw [may_bits hp ht ha hb, ho, Bool.true_and, each_mvs hp ht ha hb]
theorem drop_ref {p : Pos} (hp : POK p) : dropL p = list15 p := by
  have hpk := pockets_val hp.vr.1
  unfold dropL list15
  rw [hpk]
  by_cases hn : (decide (1 < tu p) || !decide (vr p = 2)) = true
  · rw [if_pos hn, if_pos hn]
  · rw [if_neg hn, if_neg hn]
    have key : ∀ n : Nat, dropO p n = dO p n := by
      intro n
      induction n with
      | zero => rfl
      | succ n ih =>
        rw [dropO, ih]
        unfold dO
        rw [range_flat]
        congr 1
        have hr := pkAt_rng hp (tu p) ((n : Int) + 1)
        unfold dropK dKind
        by_cases h0 : pkAt p (tu p) ((n : Int) + 1) = 0
        · rw [if_pos h0, if_neg yo]
        · rw [if_neg h0, if_pos yo]
          unfold dAll
          have hw : ∀ t : Nat, t < 64 → (dropW p ((n : Int) + 1)).getLsbD t = !dBad p ((n : Int) + 1) (t : Int) := fun t h => by
            have hm : ∀ t : Fin 64, (72057594037927680#64).getLsbD t.val = !(decide ((t.val : Int) < 8) || decide (55 < (t.val : Int))) := by decide
            have hm := hm ⟨t, h⟩
            unfold dropW dBad
            split
            · rename_i h1
              rw [BitVec.getLsbD_and, BitVec.getLsbD_not, allB_bit p h, hm, h1]
              simp [h]
            · rename_i h1
              rw [BitVec.getLsbD_not, allB_bit p h, decide_eq_false h1]
              simp [h]
          have e : ((show List Int from bitsOf (dropW p ((n : Int) + 1))).map (dropM ((n : Int) + 1))) = (show List Int from bitsOf (dropW p ((n : Int) + 1))).flatMap fun s => [dropM ((n : Int) + 1) s] := by
            generalize (show List Int from bitsOf (dropW p ((n : Int) + 1))) = l
            induction l with
            | nil => rfl
            | cons x l ih => rw [List.map_cons, List.flatMap_cons, ih]; rfl
          rw [e, bits_flat]
          refine flat_congr fun t h => ?_
          have h := List.mem_range.1 h
          rw [hw t h]
          unfold dOne
          cases dBad p ((n : Int) + 1) (t : Int) <;> rfl
    exact key 5
end Go.Kw
set_option linter.unusedVariables false
namespace Go.Kw
theorem okTo_iff (f : Nat → Bool) : ∀ n, okTo f n = true ↔ ∀ i, i < n → f i = false
  | 0 => by simp [okTo]
  | n + 1 => by
    rw [okTo, Bool.and_eq_true, okTo_iff f n, Bool.not_eq_true']
    constructor
    · rintro ⟨h1, h2⟩ i hi
      by_cases e : i = n
      · rw [e]; exact h2
      · exact h1 i yo
    · intro h
      exact ⟨fun i hi => h i yo, h n yo⟩
theorem rng_all (f : Int → Bool) (a b : Int) : (rngL a b).all f = true ↔ ∀ s, min a b ≤ s → s ≤ max a b → f s = true := by
  rw [List.all_eq_true]
  unfold rngL
  constructor
  · intro h s h1 h2
    apply h
    rw [List.mem_map]
    exact ⟨(s - min a b).toNat, List.mem_range.2 yo, by omega⟩
  · intro h s hs
    obtain ⟨i, hi, rfl⟩ := List.mem_map.1 hs
    have hi := List.mem_range.1 hi
    exact h _ yo yo
theorem within_iff (s a b : Int) : withinR s a b = true ↔ min a b ≤ s ∧ s ≤ max a b := by
  unfold withinR
  simp only [Bool.or_eq_true, Bool.and_eq_true, decide_eq_true_eq]
  omega
theorem noneAt_get (b : BitVec 64) {x : Int} (h0 : 0 ≤ x) (h1 : x < 64) : noneAt b x = !b.getLsbD x.toNat := by
  have h := bitAt_get b h0 h1
  unfold bitAt at h
  unfold noneAt
  cases e : b.getLsbD x.toNat with
  | true =>
    rw [e] at h
    rw [of_decide_eq_true h]; decide
  | false =>
    rw [e] at h
    have h := of_decide_eq_false h
    refine decide_eq_true ?_
    apply BitVec.eq_of_getLsbD_eq
    intro t ht
    rw [BitVec.getLsbD_and, BitVec.getLsbD_one, BitVec.getLsbD_zero, BitVec.getLsbD_ushiftRight, ofInt_nat h0 h1, Int.toNat_natCast]
    by_cases e2 : t = 0
    · subst e2; simp [e]
    · simp [e2]
theorem pb_put {p : Pos} (hp : POK p) (i v : Int) {t : Int} (h0 : 0 ≤ t) (h1 : t < 64) (i0 : 0 ≤ i) : pb (putB p i v) t = if t = i then v else pb p t := by
  show (List.set (show List Int from p.2.1) i.toNat v).getD t.toNat 0 = _
  rw [List.getD_eq_getElem?_getD, List.getElem?_set]
  have hl : (show List Int from p.2.1).length = 64 := hp.wf.2.1.1
  by_cases e : t = i
  · subst e
    rw [if_pos rfl, if_pos (by rw [hl]; omega), if_pos rfl]; rfl
  · rw [if_neg yo, if_neg e, ← List.getD_eq_getElem?_getD]; rfl
theorem isAt_put {p : Pos} (hp : POK p) (i v c k : Int) {t : Int} (h0 : 0 ≤ t) (h1 : t < 64) (i0 : 0 ≤ i) : isAt (putB p i v) t c k = if t = i then (decide (kind v = k) && decide (v / 8 = c)) else isAt p t c k := by
  unfold isAt
  rw [pb_put hp i v h0 h1 i0]
  split <;> rfl
theorem find_at {p : Pos} {c k : Int} (hk : ¬ k = 0) (h : 0 ≤ find p c k) : isAt p (find p c k) c k = true := by
  rw [← find_first p c hk] at h ⊢
  have hz : ¬ ofB p c k = 0#64 := fun e => by rw [e] at h; exact absurd h yd
  obtain ⟨i, hi, hb, hl⟩ := low_bit hz
  rw [first_low hi hb hl, ← ofB_kind p c hk hi]; exact hb
theorem goal_go : ∀ s : Fin 2, goalP (s.val : Int) 0 = (goR (s.val : Int)).1 ∧ goalP (s.val : Int) 1 = (goR (s.val : Int)).2 := by decide
theorem rook_piece {x c : Int} (x0 : 0 ≤ x) (c0 : 0 ≤ c) (c1 : c ≤ 1) : decide (x = 8 * c + 4) = (decide (kind x = 4) && decide (x / 8 = c)) := by
  by_cases e : x = 8 * c + 4
  · have hk : kind x = 4 := by unfold kind; rw [if_neg (by simp only [Bool.or_eq_true, decide_eq_true_eq]; omega)]; omega
    rw [decide_eq_true e, decide_eq_true hk, decide_eq_true (show x / 8 = c by omega)]; rfl
  · rw [decide_eq_false e]
    symm
    rw [Bool.and_eq_false_iff]
    by_cases hk : kind x = 4
    · right
      have : x % 8 = 4 := by rw [← kind_nz yo]; exact hk
      exact decide_eq_false yo
    · exact .inl (decide_eq_false hk)
section
variable {p : Pos} (hp : POK p)
include hp
theorem castK_find : castK p = find p (tu p) 6 := find_first p _ yd
theorem mayC1_of_home (ht : tu p ≤ 1) (side : Int) (h : (decide (castK p < 0) || !decide (castK p / 8 = 56 * tu p / 8)) = true) : mayC1 p side = true := by
  have h0 := hp.tu
  rw [castK_find hp] at h
  unfold mayC1
  simp only [Bool.or_eq_true, Bool.not_eq_true', decide_eq_true_eq, decide_eq_false_iff_not] at h ⊢
  left; left
  omega
theorem home_of (ht : tu p ≤ 1) (h : (decide (castK p < 0) || !decide (castK p / 8 = 56 * tu p / 8)) = false) : 56 * tu p ≤ find p (tu p) 6 ∧ find p (tu p) 6 ≤ 56 * tu p + 7 := by
  have h0 := hp.tu
  rw [castK_find hp] at h
  simp only [Bool.or_eq_false_iff, Bool.not_eq_false', decide_eq_true_eq, decide_eq_false_iff_not] at h
  omega
theorem rook_ref (ht : tu p ≤ 1) {side : Int} (s0 : 0 ≤ side) (s1 : side ≤ 1) (hk : 56 * tu p ≤ find p (tu p) 6 ∧ find p (tu p) 6 ≤ 56 * tu p + 7) :
    (rookP p (find p (tu p) 6) side).2 = (!mayC1 p side && !mayC2 p side) ∧ (mayC1 p side = false → (rookP p (find p (tu p) 6) side).1 = 56 * tu p + castF p side) := by
  have h0 := hp.tu
  have hf : rkAt p (tu p) side = castF p side := rfl
  unfold rookP
  rw [hf]
  by_cases hr : castF p side < 0 ∨ 7 < castF p side
  · rw [if_pos hr]
    have : mayC1 p side = true := by
      unfold mayC1
      simp only [Bool.or_eq_true, decide_eq_true_eq]; omega
    rw [this]
    exact ⟨rfl, fun h => by cases h⟩
  · rw [if_neg hr]
    have h1 : mayC1 p side = false := by
      unfold mayC1
      simp only [Bool.or_eq_false_iff, decide_eq_false_iff_not]; omega
    rw [h1]
    refine ⟨?_, fun _ => rfl⟩
    show (_ && _ && _) = (true && !mayC2 p side)
    rw [Bool.true_and]
    unfold mayC2
    have hb := hp.board (56 * tu p + castF p side).toNat
    rw [rook_piece (x := pb p (56 * tu p + castF p side)) hb.1 h0.1 ht]
    have hkk := find_at (p := p) (c := tu p) (k := 6) yd yo
    cases hi : (decide (kind (pb p (56 * tu p + castF p side)) = 4) && decide (pb p (56 * tu p + castF p side) / 8 = tu p)) with
    | false =>
      have : isAt p (56 * tu p + castF p side) (tu p) 4 = false := hi
      rw [this]; simp
    | true =>
      have h4 : isAt p (56 * tu p + castF p side) (tu p) 4 = true := hi
      have hne : ¬ 56 * tu p + castF p side = find p (tu p) 6 := fun e => by
        rw [e] at h4
        have k4 := of_decide_eq_true (Bool.and_eq_true_iff.1 h4).1
        have k6 := of_decide_eq_true (Bool.and_eq_true_iff.1 hkk).1
        omega
      rw [h4, decide_eq_false hne]
      have : side = 0 ∨ side = 1 := by omega
      rcases this with rfl | rfl
      · by_cases e : find p (tu p) 6 < 56 * tu p + castF p 0
        · rw [decide_eq_true e, decide_eq_false (show ¬ 56 * tu p + castF p 0 < find p (tu p) 6 by omega)]; rfl
        · rw [decide_eq_false e, decide_eq_true (show 56 * tu p + castF p 0 < find p (tu p) 6 by omega)]; rfl
      · by_cases e : find p (tu p) 6 < 56 * tu p + castF p 1
        · rw [decide_eq_true e, decide_eq_false (show ¬ 56 * tu p + castF p 1 < find p (tu p) 6 by omega)]; rfl
        · rw [decide_eq_false e, decide_eq_true (show 56 * tu p + castF p 1 < find p (tu p) 6 by omega)]; rfl
theorem safe_ref (ht : tu p ≤ 1) {k r s : Int} (k0 : 0 ≤ k) (k1 : k < 64) (r0 : 0 ≤ r) (r1 : r < 64) (hk : isAt p k (1 - tu p) 6 = false) (hr : isAt p r (1 - tu p) 6 = false) (h0 : 0 ≤ s) (h1 : s < 64) :
    safeP p (putB (putB p k 0) r 0) (ofB p (1 - tu p) 6) s = safeR (putB (putB p k 0) r 0) s := by
  have htu := hp.tu
  have hq1 := POK_put hp k (v := 0) yd yd
  have hq := POK_put hq1 r (v := 0) yd yd
  unfold safeP safeR
  rw [near_bits h0 h1, Bool.not_not, by_ref h0 h1 yo yo]
  show _ = if (decide (vr p = 3) && nearKing (putB (putB p k 0) r 0) (tu p) s 64) = true then true else decide (refBy (putB (putB p k 0) r 0) s (1 - tu p) = 0#64)
  have e : nearKing (putB (putB p k 0) r 0) (tu p) s 64 = nearKing p (tu p) s 64 := by
    have hi : ∀ m : Nat, m < 64 → isAt (putB (putB p k 0) r 0) (m : Int) (1 - tu p) 6 = isAt p (m : Int) (1 - tu p) 6 := fun m hm => by
      have z : (decide (kind 0 = 6) && decide ((0 : Int) / 8 = 1 - tu p)) = false := rfl
      rw [isAt_put hq1 r 0 _ _ yo yo r0, isAt_put hp k 0 _ _ yo yo k0, z]
      split
      · rename_i e; rw [e, hr]
      · split
        · rename_i e; rw [e, hk]
        · rfl
    have key : ∀ n : Nat, n ≤ 64 → nearKing (putB (putB p k 0) r 0) (tu p) s n = nearKing p (tu p) s n := by
      intro n
      induction n with
      | zero => exact fun _ => rfl
      | succ n ih => exact fun hn => by rw [nearKing, nearKing, ih yo, hi n yo]
    exact key 64 (Nat.le_refl _)
  rw [e]
  cases (decide (vr p = 3) && nearKing p (tu p) s 64) <;> rfl
theorem may_ref (hc : (decide (1 < tu p) || !castlesP (vr p)) = false) {side : Int} (s0 : 0 ≤ side) (s1 : side ≤ 1) (hk : 56 * tu p ≤ find p (tu p) 6 ∧ find p (tu p) 6 ≤ 56 * tu p + 7) :
    (mayP p (find p (tu p) 6) side).2 = (mayC p side).2.2 ∧ ((mayC p side).2.2 = true → (mayP p (find p (tu p) 6) side).1 = castM (mayC p side)) := by
  have ht : tu p ≤ 1 := Int.not_lt.1 (of_decide_eq_false (Bool.or_eq_false_iff.1 hc).1)
  have h0 := hp.tu
  obtain ⟨hr, hr1⟩ := rook_ref hp ht s0 s1 hk
  unfold mayP mayC
  rw [if_neg (Bool.eq_false_iff.1 hc), hr]
  cases e1 : mayC1 p side with
  | true => exact ⟨rfl, fun h => by cases h⟩
  | false =>
    have hF := cast_rng e1
    rw [if_neg (show ¬ (false = true) by simp)]
    cases e2 : mayC2 p side with
    | true => exact ⟨rfl, fun h => by cases h⟩
    | false =>
      rw [if_neg (show ¬ (false = true) by simp), if_pos (by rfl), hr1 e1]
      have hg := goal_go ⟨side.toNat, by omega⟩
      simp only [Int.toNat_of_nonneg s0] at hg
      have hgr := goR_rng side
      have hkk := find_at (p := p) (c := tu p) (k := 6) yd yo
      have hrk : isAt p (56 * tu p + castF p side) (tu p) 4 = true := by
        unfold mayC2 at e2
        have := (Bool.or_eq_false_iff.1 (Bool.or_eq_false_iff.1 e2).1).1
        simpa using this
      have notc : ∀ {x k : Int}, isAt p x (tu p) k = true → isAt p x (1 - tu p) 6 = false := fun h => by
        have := of_decide_eq_true (Bool.and_eq_true_iff.1 h).2
        unfold isAt
        rw [decide_eq_false (show ¬ pb p _ / 8 = 1 - tu p by omega), Bool.and_false]
      have hqk : POK (takeQ p side) := POK_put (POK_put hp _ yd yd) _ yd yd
      have hsafe : ∀ s : Int, 0 ≤ s → s < 64 → safeP p (takeQ p side) (ofB p (1 - tu p) 6) s = safeR (takeQ p side) s := fun s a b =>
        safe_ref hp ht yo yo yo yo (notc hkk) (notc hrk) a b
      have hnone : ∀ s : Int, 0 ≤ s → s < 64 → noneAt (allB (takeQ p side)) s = decide (kind (pb (takeQ p side) s) = 0) := fun s a b => by
        rw [noneAt_get _ a b, allB_bit _ yo, Int.toNat_of_nonneg a, Bool.not_not]
      have key : (((rngL (find p (tu p) 6) (56 * tu p + goalP side 0)).all (noneAt (allB (takeQ p side))) && (rngL (56 * tu p + castF p side) (56 * tu p + goalP side 1)).all (noneAt (allB (takeQ p side))))
          && (rngL (find p (tu p) 6) (56 * tu p + goalP side 0)).all (safeP p (takeQ p side) (ofB p (1 - tu p) 6))) = okTo (badR p side) 8 := by
        rw [hg.1, hg.2]
        rw [Bool.eq_iff_iff, Bool.and_eq_true, Bool.and_eq_true, rng_all, rng_all, rng_all, okTo_iff]
        constructor
        · rintro ⟨⟨a1, a2⟩, a3⟩ i hi
          unfold badR badAt
          have x0 : 0 ≤ 56 * tu p + (i : Int) := by omega
          have x1 : 56 * tu p + (i : Int) < 64 := by omega
          have n1 : withinR (56 * tu p + (i : Int)) (find p (tu p) 6) (56 * tu p + (goR side).1) = true → kind (pb (takeQ p side) (56 * tu p + (i : Int))) = 0 ∧ safeR (takeQ p side) (56 * tu p + (i : Int)) = true := fun h => by
            obtain ⟨w1, w2⟩ := (within_iff _ _ _).1 h
            have b1 := a1 _ w1 w2
            have b3 := a3 _ w1 w2
            rw [hnone _ x0 x1] at b1
            rw [hsafe _ x0 x1] at b3
            exact ⟨of_decide_eq_true b1, b3⟩
          have n2 : withinR (56 * tu p + (i : Int)) (56 * tu p + castF p side) (56 * tu p + (goR side).2) = true → kind (pb (takeQ p side) (56 * tu p + (i : Int))) = 0 := fun h => by
            obtain ⟨w1, w2⟩ := (within_iff _ _ _).1 h
            have b1 := a2 _ w1 w2
            rw [hnone _ x0 x1] at b1
            exact of_decide_eq_true b1
          cases w : withinR (56 * tu p + (i : Int)) (find p (tu p) 6) (56 * tu p + (goR side).1) with
          | true =>
            obtain ⟨m1, m2⟩ := n1 w
            rw [m2, decide_eq_true m1]; rfl
          | false =>
            cases w2 : withinR (56 * tu p + (i : Int)) (56 * tu p + castF p side) (56 * tu p + (goR side).2) with
            | true => rw [decide_eq_true (n2 w2)]; rfl
            | false => rfl
        · intro h
          have at_ : ∀ s : Int, 56 * tu p ≤ s → s ≤ 56 * tu p + 7 → badAt p side s = false := fun s a b => by
            have := h (s - 56 * tu p).toNat yo
            unfold badR at this
            rw [show 56 * tu p + (((s - 56 * tu p).toNat : Nat) : Int) = s by omega] at this
            exact this
          have way : ∀ s : Int, min (find p (tu p) 6) (56 * tu p + (goR side).1) ≤ s → s ≤ max (find p (tu p) 6) (56 * tu p + (goR side).1) → (0 ≤ s ∧ s < 64) ∧ kind (pb (takeQ p side) s) = 0 ∧ safeR (takeQ p side) s = true := fun s a b => by
            have hb := at_ s yo yo
            unfold badAt at hb
            rw [(within_iff _ _ _).2 ⟨a, b⟩] at hb
            simp only [Bool.true_or, Bool.true_and, Bool.or_eq_false_iff, Bool.not_eq_false', decide_eq_true_eq] at hb
            exact ⟨by omega, hb⟩
          refine ⟨⟨fun s a b => ?_, fun s a b => ?_⟩, fun s a b => ?_⟩
          · obtain ⟨⟨x0, x1⟩, h2, -⟩ := way s a b
            rw [hnone _ x0 x1]; exact decide_eq_true h2
          · have hb := at_ s yo yo
            unfold badAt at hb
            rw [(within_iff s (56 * tu p + castF p side) _).2 ⟨a, b⟩] at hb
            simp only [Bool.or_true, Bool.true_and, Bool.or_eq_false_iff, Bool.not_eq_false', decide_eq_true_eq] at hb
            rw [hnone _ yo yo]; exact decide_eq_true hb.1
          · obtain ⟨⟨x0, x1⟩, -, h3⟩ := way s a b
            rw [hsafe _ x0 x1]; exact h3
      cases ho : okTo (badR p side) 8 with
      | true =>
        rw [ho] at key
        rw [if_pos rfl]
        exact ⟨key, fun _ => rfl⟩
      | false =>
        rw [ho] at key
        rw [if_neg (by simp)]
        exact ⟨key, fun h => by cases h⟩
theorem castle_ref : castleL p = list14 p := by
  have two : ∀ side : Int, (mayC p side).2.2 = false → ∀ l : List Mv, l ++ (if (mayC p side).2.2 = true then [castM (mayC p side)] else []) = l := fun side h l => by
    rw [h, if_neg (by simp), List.append_nil]
  have none2 : (mayC p 1).2.2 = false → (mayC p 0).2.2 = false → list14 p = [] := fun a b => by
    show (([] ++ (if (mayC p (1 - ((0 : Nat) : Int))).2.2 = true then _ else [])) ++ (if (mayC p (1 - ((1 : Nat) : Int))).2.2 = true then _ else [])) = []
    rw [show (1 : Int) - ((0 : Nat) : Int) = 1 from rfl, show (1 : Int) - ((1 : Nat) : Int) = 0 from rfl, two _ b, two _ a]
  by_cases hc : (decide (1 < tu p) || !castlesP (vr p)) = true
  · have : ∀ side, (mayC p side).2.2 = false := fun side => by unfold mayC; rw [if_pos hc]
    rw [castleL_a hc, none2 (this 1) (this 0)]
  · have hc := Bool.eq_false_iff.2 hc
    have ht : tu p ≤ 1 := Int.not_lt.1 (of_decide_eq_false (Bool.or_eq_false_iff.1 hc).1)
    by_cases h2 : (decide (castK p < 0) || !decide (castK p / 8 = 56 * tu p / 8)) = true
    · have : ∀ side, (mayC p side).2.2 = false := fun side => by
        unfold mayC; rw [if_neg (Bool.eq_false_iff.1 hc), if_pos (mayC1_of_home hp ht side h2)]
      rw [castleL_b hc h2, none2 (this 1) (this 0)]
    · have h2 := Bool.eq_false_iff.2 h2
      rw [castleL_c hc h2]
      have hk := home_of hp ht h2
      have step : ∀ (side : Int), 0 ≤ side → side ≤ 1 → (if (mayP p (castK p) side).2 = true then [(mayP p (castK p) side).1] else []) = (if (mayC p side).2.2 = true then [castM (mayC p side)] else []) := fun side a b => by
        obtain ⟨m1, m2⟩ := may_ref hp hc a b hk
        rw [castK_find hp, m1]
        cases e : (mayC p side).2.2 with
        | false => rfl
        | true => rw [if_pos rfl, if_pos rfl, m2 e]
      show (([] ++ (if (mayP p (castK p) 1).2 = true then [(mayP p (castK p) 1).1] else [])) ++ (if (mayP p (castK p) 0).2 = true then [(mayP p (castK p) 0).1] else [])) = _
      rw [step 1 yd yd, step 0 yd yd]
      rfl
theorem all_ref : allL p = allR p := by
  unfold allL allR
  rw [pseudo_ref hp, castle_ref hp, drop_ref hp, List.append_assoc]
end
end Go.Kw
