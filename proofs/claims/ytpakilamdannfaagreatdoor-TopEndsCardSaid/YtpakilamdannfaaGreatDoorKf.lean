/- A part of the proof: KwP15, KwP16, KwP17, KwP18, KwP19, KwP20, KwP21, KwP22, KwP23. -/
import Derived.Test.YtpakilamdannfaaGreatDoorKe
set_option linter.all false
set_option linter.unusedVariables false
set_option linter.unusedSimpArgs false
set_option linter.unusedSectionVars false
set_option maxRecDepth 20000
set_option linter.unusedVariables false
namespace Go.Kw
open Go.Proofs


theorem kind_rng (x : Int) : 0 ≤ kind x ∧ kind x ≤ 255 := by
  unfold kind; split
  · exact ⟨by decide, by decide⟩
  · rename_i h; simp only [Bool.or_eq_true, decide_eq_true_eq] at h; omega
def setPm (q : Pos) (b : BitVec 64) : Pos := (q.1, q.2.1, b, q.2.2.2)
def pkt1 (was : Pos) (tk : Int) : Int := if (bitAt (pm was) tk && !decide (pb was tk = 0)) = true then 1 else kind (pb was tk)
def pkt2 (q was : Pos) (tk : Int) : Pos := if decide (0 ≤ tk) = true then setPm (addP q (tu q) (pkt1 was tk)) (pm (addP q (tu q) (pkt1 was tk)) &&& ~~~shlB tk) else q
def pkt3 (q : Pos) (m : Mv) : Pos := setPm q (pm q &&& ~~~shlB (mF m))
def pkt4 (q was : Pos) (m : Mv) : Pos := if (!decide (mP m = 0) || bitAt (pm was) (mF m)) = true then setPm q (pm q ||| shlB (mT m)) else q
def pocketQ (q was : Pos) (m : Mv) (tk : Int) : Pos :=
  if (!decide (vr q = 2) || !decide (mD m = 0)) = true then q
  else if mC m = true then (if bitAt (pm was) (mT m) = true then setPm (setPm q (pm q &&& ~~~shlB (mT m))) ((pm q &&& ~~~shlB (mT m)) ||| shlB (goalsP was m).2.1) else q)
  else pkt4 (pkt3 (pkt2 q was tk) m) was m
def blowF (q : Pos) (l : List (El i64)) (i : Nat) : Pos := ((show List Int from l).take i).foldl (fun q s => putB q s 0) q
def blowQ (q : Pos) (m : Mv) (tk : Int) : Pos := if (!decide (vr q = 3) || decide (tk < 0)) = true then q else (show List Int from bitsOf (blownB q (mT m))).foldl (fun q s => putB q s 0) q
theorem blowF_next (q : Pos) (l : List (El i64)) {i : Nat} (h : i < l.length) : blowF q l (i + 1) = putB (blowF q l i) (l.getD ((i : Nat) : Int).toNat (zero i64)) 0 := by
  have key : ∀ (l : List Int), i < l.length → (l.take (i + 1)).foldl (fun q s => putB q s 0) q = putB ((l.take i).foldl (fun q s => putB q s 0) q) (l.getD i 0) 0 := fun l h => by
    rw [List.take_add_one, List.foldl_append, List.getElem?_eq_getElem h, List.getD_eq_getElem?_getD, List.getElem?_eq_getElem h]; rfl
  exact key l h
theorem blowF_all (q : Pos) (l : List (El i64)) {i : Nat} (h : l.length ≤ i) : blowF q l i = (show List Int from l).foldl (fun q s => putB q s 0) q := by
  unfold blowF
  rw [List.take_of_length_le h]

theorem c_after_mover_pocket (q was : Pos) (m : Mv) (tk : Int) (bm : Nat) (M : List Fact) (hq : POK q) (hw : POK was) (hm : MOK m) (ht : tu q ≤ 1) (hF : 0 ≤ mF m ∧ mF m < 64) (hT : 0 ≤ mT m ∧ mT m < 64) (htk : -1 ≤ tk ∧ tk < 64) (hwt : tu was ≤ 1) : Con Tryz.prog 49 [ptrv bm moverT []] (.box bm 73 moverT (q, was, m, tk, ()) :: M) (fun v M' => M' = .box bm 73 moverT (pocketQ q was m tk, was, m, tk, ()) :: M) := by
 have hb := hq.board
 have hpw := hq.wf
 have htu := hq.tu
 have hbw := hw.board
 have hww := hw.wf
 have hvq := hq.vr
 have htu0 := hq.tu
 simp only [tu] at htu0
 have ht2 := ht
 simp only [tu] at ht2
 have hmd := hm.d
 have hmp := hm.p
 have hmd0 := hm.d
 simp only [mD] at hmd0
 have hmp0 := hm.p
 simp only [mP] at hmp0
 have hF0 := hF
 simp only [mF] at hF0
 have hT0 := hT
 simp only [mT] at hT0
 have hFr : rng .i64 (mF m) := by simp only [rng]; omega
 have hTr : rng .i64 (mT m) := by simp only [rng]; omega
 have hmw := wf_move m
 have hmvw : wf moverT (q, was, m, tk, ()) := ⟨hpw, hww, hmw, trivial, trivial⟩
 have hgr := goalsP_rng was m hw hwt
 have hkk := kind_rng (pb was tk)
 refine con_of_W (n := 188) Tryz.func49 rfl rfl yn ?_
 refine w2 (fun w0 => ?_)
 refine LO_l rfl (by decide : 1 < 188) (ol_box1 rfl rfl rfl (fun b1 => ?_))
 refine LO_nil (W_seq (w1 ((yR (ov_load1 rfl rfl ye Tryz.isAgg70) ?_))))
 refine yR (ov_nilptr rfl rfl) ?_
 refine yR (ov_fieldAddr rfl rfl fa73_0 rfl) ?_
 refine yR (ov_fieldAddr rfl rfl fa31_0 rfl) ?_
 refine yR (ov_load rfl rfl ye ⟨⟨trivial, yn⟩, yn⟩ rfl rfl tok5) ?_
 refine yR (ov_neq rfl rfl rfl) ?_
 refine yM ?_
 refine yG (fun hg => OpX.v (ov_load1 rfl rfl ye Tryz.isAgg70)) ?_
 refine yG (fun hg => OpX.v (ov_nilptr rfl (look_gv rfl (bq hg)))) ?_
 refine yG (fun hg => OpX.v (ov_fieldAddr rfl (look_gv rfl (bq hg)) fa73_2 rfl)) ?_
 refine yG (fun hg => OpX.v (ov_fieldAddr rfl (look_gv rfl (bq hg)) fa55_3 rfl)) ?_
 refine yG (fun hg => OpX.v (ov_load rfl (look_gv rfl (bq hg)) ye ⟨⟨trivial, yn⟩, yn⟩ rfl rfl tok5)) ?_
 refine yG (fun hg => OpX.v (ov_neq rfl (look_gv rfl (bq hg)) rfl)) ?_
 refine yR (ov_or rfl rfl rfl rfl (fun h => bq h)) ?_
 refine RO_nil (W_cond rfl (fun hc1 => ?_) (fun hc1 => ?_))
 ·
  refine W_ret ⟨trivial, _, .box bm 73 moverT (pocketQ q was m tk, was, m, tk, ()) :: M, (ResV_none rfl), ?_, rfl⟩
  exact xbfy
 ·
  refine W_skip (w1 ((yR (ov_makeFunc rfl rfl rfl) ?_)))
  refine yA_ ?_
  refine RO_nil (W_seq (w1 ((yR (ov_load1 rfl rfl ye Tryz.isAgg70) ?_))))
  refine yR (ov_nilptr rfl rfl) ?_
  refine yR (ov_fieldAddr rfl rfl fa73_2 rfl) ?_
  refine yR (ov_fieldAddr rfl rfl fa55_4 rfl) ?_
  refine yR (ov_load rfl rfl ye ⟨⟨trivial, yn⟩, yn⟩ rfl rfl tok4) ?_
  refine RO_nil (W_cond rfl (fun hc2 => ?_) (fun hc2 => ?_))
  ·
   refine W_seq (W_seq (W_regd mixed yk ?_))
   refine yR (ov_load1 rfl rfl ye Tryz.isAgg70) ?_
   refine yR (ov_nilptr rfl rfl) ?_
   refine yR (ov_fieldAddr rfl rfl fa73_1 rfl) ?_
   refine yR (ov_load rfl rfl ye ⟨trivial, yn⟩ rfl rfl tok31) ?_
   refine yR (ov_load1 rfl rfl ye Tryz.isAgg70) ?_
   refine yR (ov_nilptr rfl rfl) ?_
   refine yR (ov_fieldAddr rfl rfl fa73_2 rfl) ?_
   refine yR (ov_load rfl rfl ye ⟨trivial, yn⟩ rfl rfl tok55) ?_
   refine yP (yV rfl rfl rfl Tryz.call107 (c_castle_Goals was hw m hm _)) ?_
   refine yM ?_
   refine yR (ov_extract rfl rfl rfl) ?_
   refine yR (ov_extract rfl rfl rfl) ?_
   refine yR (ov_extract rfl rfl rfl) ?_
   refine yA_ ?_
   refine yA_ ?_
   refine yA_ ?_
   refine RO_nil (w1 ((yM ?_)))
   refine yR (ov_load1 rfl rfl ye Tryz.isAgg70) ?_
   refine yR (ov_nilptr rfl rfl) ?_
   refine yR (ov_fieldAddr rfl rfl fa73_2 rfl) ?_
   refine yR (ov_fieldAddr rfl rfl fa55_1 rfl) ?_
   refine yR (ov_load rfl rfl ye ⟨⟨trivial, yn⟩, yn⟩ rfl rfl tok26) ?_
   refine yR (ov_convn rfl rfl Tryz.underlying26 Tryz.underlying3 ya) ?_
   refine yP (ov_call  rfl rfl rfl Tryz.call110 (c_after_mover_pocket_1 _ _ was m tk bm 73 b1 70 _ ye ye)) ?_
   refine RO_nil (W_cond rfl (fun hc3 => ?_) (fun hc3 => ?_))
   ·
    refine W_seq (W_regD (fun i => !Nat.beq i 16) mixed (fun w0 => ?_))
    refine D_mem0 (i := 0) rfl yk yk rfl rfl yd (ov_load1 rfl rfl ye Tryz.isAgg70) ?_
    refine D_mem0 (i := 1) rfl yk yk rfl rfl yd (ov_nilptr rfl rfl) ?_
    refine D_mem0 (i := 2) rfl yk yk rfl rfl yd (ov_fieldAddr rfl rfl fa73_0 rfl) ?_
    refine D_mem0 (i := 3) rfl yk yk rfl rfl yd (ov_fieldAddr rfl rfl fa31_2 rfl) ?_
    refine D_mem0 (i := 4) rfl yk yk rfl rfl yd (ov_load rfl rfl ye ⟨⟨trivial, yn⟩, yn⟩ rfl rfl tok23) ?_
    refine D_oneV (i := 5) rfl yk rfl rfl yd xaay (OpX.v (ov_load1 rfl rfl ye Tryz.isAgg70)) ?_
    refine D_oneV (i := 6) rfl yk rfl rfl yd xaay (OpX.v (ov_nilptr rfl rfl)) ?_
    refine D_oneV (i := 7) rfl yk rfl rfl yd xaay (OpX.v (ov_fieldAddr rfl rfl fa73_2 rfl)) ?_
    refine D_oneV (i := 8) rfl yk rfl rfl yd xaay (OpX.v (ov_fieldAddr rfl rfl fa55_1 rfl)) ?_
    refine D_oneV (i := 9) rfl yk rfl rfl yd xaay (OpX.v (ov_load rfl rfl ye ⟨⟨trivial, yn⟩, yn⟩ rfl rfl tok26)) ?_
    refine D_oneV (i := 10) rfl yk rfl rfl yd xaay (OpX.v (ov_conv64 rfl rfl Tryz.underlying26 Tryz.underlying111)) ?_
    refine D_oneV (i := 11) rfl yk rfl rfl yd xaay (OpX.v (ov_shl64 (a := 1#64) rfl rfl rfl ya)) ?_
    refine D_oneV (i := 12) rfl yk rfl rfl yd xaay (OpX.v (ov_bits rfl rfl rfl (.inr (.inr (.inr ⟨rfl, rfl⟩))))) ?_
    refine D_oneV (i := 13) rfl yk rfl rfl yd xaay (OpX.v (ov_nilptr rfl rfl)) ?_
    refine D_oneV (i := 14) rfl yk rfl rfl yd xaay (OpX.v (ov_fieldAddr rfl rfl fa73_0 rfl)) ?_
    refine D_oneV (i := 15) rfl yk rfl rfl yd xaay (OpX.v (ov_fieldAddr rfl rfl fa31_2 rfl)) ?_
    refine D_one (i := 16) rfl yk rfl trivial (ol_st1 rfl rfl rfl ⟨⟨trivial, yn⟩, yn⟩ rfl yf tok23 ⟨xaay, ?_⟩)
    refine D_end yk ?_
    refine W_regl (fun w0 => ?_)
    refine yL (ov_load1 rfl rfl ye Tryz.isAgg70) ?_
    refine yL (ov_nilptr rfl rfl) ?_
    refine yL (ov_fieldAddr rfl rfl fa73_0 rfl) ?_
    refine yL (ov_fieldAddr rfl rfl fa31_2 rfl) ?_
    refine yL (ov_load rfl rfl ye ⟨⟨trivial, yn⟩, yn⟩ rfl rfl tok23) ?_
    refine zM ?_
    refine yL (ov_conv64 rfl rfl Tryz.underlying3 Tryz.underlying111) ?_
    refine yL (ov_shl64 (a := 1#64) rfl rfl rfl ya) ?_
    refine yL (ov_bits rfl rfl rfl (.inr (.inl ⟨rfl, rfl⟩))) ?_
    refine yL (ov_nilptr rfl rfl) ?_
    refine yL (ov_fieldAddr rfl rfl fa73_0 rfl) ?_
    refine yL (ov_fieldAddr rfl rfl fa31_2 rfl) ?_
    refine LO_l rfl trivial (ol_st1 rfl rfl rfl ⟨⟨trivial, yn⟩, yn⟩ rfl yf tok23 ?_)
    refine LO_nil (W_ret ⟨trivial, _, .box bm 73 moverT (pocketQ q was m tk, was, m, tk, ()) :: M, (ResV_none rfl), ?_, rfl⟩)
    exact xbfy
   ·
    refine W_skip (W_ret ⟨trivial, _, .box bm 73 moverT (pocketQ q was m tk, was, m, tk, ()) :: M, (ResV_none rfl), ?_, rfl⟩)
    exact xbfy
  ·
   refine W_skip (W_seq (w1 ((yR (ov_load1 rfl rfl ye Tryz.isAgg70) ?_))))
   refine yR (ov_nilptr rfl rfl) ?_
   refine yR (ov_fieldAddr rfl rfl fa73_3 rfl) ?_
   refine yR (ov_load rfl rfl ye ⟨trivial, yn⟩ rfl rfl tok3) ?_
   refine yR (ov_geq rfl rfl rfl) ?_
   refine RO_nil (W_cond rfl (fun hc4 => ?_) (fun hc4 => ?_))
   ·
    have htk0 : 0 ≤ tk := of_decide_eq_true hc4
    have hwA1 := (POK_add hq (tu q) 1).wf
    have hwA2 := (POK_add hq (tu q) (kind (pb was tk))).wf
    refine W_seq (W_regd mixed yk ?_)
    refine yR (ov_load1 rfl rfl ye Tryz.isAgg70) ?_
    refine yR (ov_load1 rfl rfl ye Tryz.isAgg70) ?_
    refine yR (ov_nilptr rfl rfl) ?_
    refine yR (ov_fieldAddr rfl rfl fa73_3 rfl) ?_
    refine yR (ov_load rfl rfl ye ⟨trivial, yn⟩ rfl rfl tok3) ?_
    refine yR (ov_nilptr rfl rfl) ?_
    refine yR (ov_fieldAddr rfl rfl fa73_1 rfl) ?_
    refine yR (ov_fieldAddr rfl rfl fa31_1 rfl) ?_
    refine yR (ov_indexAddr rfl rfl rfl Tryz.underlying22 rfl Tryz.sizeOf5 ya ya) ?_
    refine yR (ov_load rfl rfl ye ⟨⟨⟨trivial, yn⟩, yn⟩, (tn ya ya)⟩ rfl rfl tok5) ?_
    refine yP (yV rfl rfl rfl Tryz.call105 (c_pieces_Kind (pb was tk) _ (hbw _).1 (hbw _).2)) ?_
    refine yA_ ?_
    refine RO_nil (W_seq (W_seq (W_regd mixed yk ?_)))
    refine yM ?_
    refine yR (ov_load1 rfl rfl ye Tryz.isAgg70) ?_
    refine yR (ov_nilptr rfl rfl) ?_
    refine yR (ov_fieldAddr rfl rfl fa73_3 rfl) ?_
    refine yR (ov_load rfl rfl ye ⟨trivial, yn⟩ rfl rfl tok3) ?_
    refine yP (ov_call  rfl rfl rfl Tryz.call110 (c_after_mover_pocket_1 _ _ was m tk bm 73 b1 70 _ ye ye)) ?_
    refine yM ?_
    refine yG (fun hg => OpX.v (ov_load1 rfl rfl ye Tryz.isAgg70)) ?_
    refine yG (fun hg => OpX.v (ov_load1 rfl rfl ye Tryz.isAgg70)) ?_
    refine yG (fun hg => OpX.v (ov_nilptr rfl (look_gv rfl (bq hg)))) ?_
    refine yG (fun hg => OpX.v (ov_fieldAddr rfl (look_gv rfl (bq hg)) fa73_3 rfl)) ?_
    refine yG (fun hg => OpX.v (ov_load rfl (look_gv rfl (bq hg)) ye ⟨trivial, yn⟩ rfl rfl tok3)) ?_
    refine yG (fun hg => OpX.v (ov_nilptr rfl (look_gv rfl (bq hg)))) ?_
    refine yG (fun hg => OpX.v (ov_fieldAddr rfl (look_gv rfl (bq hg)) fa73_1 rfl)) ?_
    refine yG (fun hg => OpX.v (ov_fieldAddr rfl (look_gv rfl (bq hg)) fa31_1 rfl)) ?_
    refine yG (fun hg => OpX.v (ov_indexAddr rfl (look_gv rfl (bq hg)) (look_gv rfl (bq hg)) Tryz.underlying22 rfl Tryz.sizeOf5 ya ya)) ?_
    refine yG (fun hg => OpX.v (ov_load rfl (look_gv rfl (bq hg)) ye ⟨⟨⟨trivial, yn⟩, yn⟩, (tn ya ya)⟩ rfl rfl tok5)) ?_
    refine yG (fun hg => OpX.v (ov_neq rfl (look_gv rfl (bq hg)) rfl)) ?_
    refine yR (ov_and rfl rfl rfl rfl (fun h => bq h)) ?_
    refine RO_nil (W_cond rfl (fun hc5 => ?_) (fun hc5 => ?_))
    ·
     refine W_reg (yA_ ?_)
     refine RO_nil (W_seq (W_regD (fun i => !Nat.beq i 14) mixed (fun w0 => ?_)))
     refine D_mem0 (i := 0) rfl yk yk rfl rfl yd (ov_load1 rfl rfl ye Tryz.isAgg70) ?_
     refine D_mem0 (i := 1) rfl yk yk rfl rfl yd (ov_load1 rfl rfl ye Tryz.isAgg70) ?_
     refine D_mem0 (i := 2) rfl yk yk rfl rfl yd (ov_nilptr rfl rfl) ?_
     refine D_mem0 (i := 3) rfl yk yk rfl rfl yd (ov_fieldAddr rfl rfl fa73_0 rfl) ?_
     refine D_mem0 (i := 4) rfl yk yk rfl rfl yd (ov_load rfl rfl ye ⟨trivial, yn⟩ rfl rfl tok31) ?_
     refine D_mem0 (i := 5) rfl yk yk rfl rfl yd (ov_load1 rfl rfl ye Tryz.isAgg70) ?_
     refine D_mem0 (i := 6) rfl yk yk rfl rfl yd (ov_nilptr rfl rfl) ?_
     refine D_mem0 (i := 7) rfl yk yk rfl rfl yd (ov_fieldAddr rfl rfl fa73_0 rfl) ?_
     refine D_mem0 (i := 8) rfl yk yk rfl rfl yd (ov_fieldAddr rfl rfl fa31_4 rfl) ?_
     refine D_mem0 (i := 9) rfl yk yk rfl rfl yd (ov_load rfl rfl ye ⟨⟨trivial, yn⟩, yn⟩ rfl rfl tok5) ?_
     refine D_oneV (i := 10) rfl yk rfl rfl yd xaay (OpX.v (ov_move rfl rfl)) ?_
     refine D_oneV (i := 11) rfl yk rfl rfl yd xaay (yV rfl rfl rfl Tryz.call111 (c_drop_Add q hq (tu q) _ _ htu.1 htu.2 (by first | decide | exact hkk.1) (by first | decide | exact hkk.2))) ?_
     refine D_oneV (i := 12) rfl yk rfl rfl yd xaay (OpX.v (ov_nilptr rfl rfl)) ?_
     refine D_oneV (i := 13) rfl yk rfl rfl yd xaay (OpX.v (ov_fieldAddr rfl rfl fa73_0 rfl)) ?_
     refine D_one (i := 14) rfl yk rfl trivial (ol_st1 rfl rfl rfl ⟨trivial, yn⟩ rfl yf tok31 ⟨xaay, ?_⟩)
     refine D_end yk ?_
     refine W_regD (fun i => !Nat.beq i 15) mixed (fun w0 => ?_)
     refine D_mem0 (i := 0) rfl yk yk rfl rfl yd (ov_load1 rfl rfl ye Tryz.isAgg70) ?_
     refine D_mem0 (i := 1) rfl yk yk rfl rfl yd (ov_nilptr rfl rfl) ?_
     refine D_mem0 (i := 2) rfl yk yk rfl rfl yd (ov_fieldAddr rfl rfl fa73_0 rfl) ?_
     refine D_mem0 (i := 3) rfl yk yk rfl rfl yd (ov_fieldAddr rfl rfl fa31_2 rfl) ?_
     refine D_mem0 (i := 4) rfl yk yk rfl rfl yd (ov_load rfl rfl ye ⟨⟨trivial, yn⟩, yn⟩ rfl rfl tok23) ?_
     refine D_oneV (i := 5) rfl yk rfl rfl yd xaay (OpX.v (ov_load1 rfl rfl ye Tryz.isAgg70)) ?_
     refine D_oneV (i := 6) rfl yk rfl rfl yd xaay (OpX.v (ov_nilptr rfl rfl)) ?_
     refine D_oneV (i := 7) rfl yk rfl rfl yd xaay (OpX.v (ov_fieldAddr rfl rfl fa73_3 rfl)) ?_
     refine D_oneV (i := 8) rfl yk rfl rfl yd xaay (OpX.v (ov_load rfl rfl ye ⟨trivial, yn⟩ rfl rfl tok3)) ?_
     refine D_oneV (i := 9) rfl yk rfl rfl yd xaay (OpX.v (ov_conv64 rfl rfl Tryz.underlying3 Tryz.underlying111)) ?_
     refine D_oneV (i := 10) rfl yk rfl rfl yd xaay (OpX.v (ov_shl64 (a := 1#64) rfl rfl rfl ya)) ?_
     refine D_oneV (i := 11) rfl yk rfl rfl yd xaay (OpX.v (ov_bits rfl rfl rfl (.inr (.inr (.inr ⟨rfl, rfl⟩))))) ?_
     refine D_oneV (i := 12) rfl yk rfl rfl yd xaay (OpX.v (ov_nilptr rfl rfl)) ?_
     refine D_oneV (i := 13) rfl yk rfl rfl yd xaay (OpX.v (ov_fieldAddr rfl rfl fa73_0 rfl)) ?_
     refine D_oneV (i := 14) rfl yk rfl rfl yd xaay (OpX.v (ov_fieldAddr rfl rfl fa31_2 rfl)) ?_
     refine D_one (i := 15) rfl yk rfl trivial (ol_st1 rfl rfl rfl ⟨⟨trivial, yn⟩, yn⟩ rfl yf tok23 ⟨xaay, ?_⟩)
     refine D_end yk ?_
     refine W_seq (W_regD (fun i => !Nat.beq i 16) mixed (fun w0 => ?_))
     refine D_mem0 (i := 0) rfl yk yk rfl rfl yd (ov_load1 rfl rfl ye Tryz.isAgg70) ?_
     refine D_mem0 (i := 1) rfl yk yk rfl rfl yd (ov_nilptr rfl rfl) ?_
     refine D_mem0 (i := 2) rfl yk yk rfl rfl yd (ov_fieldAddr rfl rfl fa73_0 rfl) ?_
     refine D_mem0 (i := 3) rfl yk yk rfl rfl yd (ov_fieldAddr rfl rfl fa31_2 rfl) ?_
     refine D_mem0 (i := 4) rfl yk yk rfl rfl yd (ov_load rfl rfl ye ⟨⟨trivial, yn⟩, yn⟩ rfl rfl tok23) ?_
     refine D_oneV (i := 5) rfl yk rfl rfl yd xaay (OpX.v (ov_load1 rfl rfl ye Tryz.isAgg70)) ?_
     refine D_oneV (i := 6) rfl yk rfl rfl yd xaay (OpX.v (ov_nilptr rfl rfl)) ?_
     refine D_oneV (i := 7) rfl yk rfl rfl yd xaay (OpX.v (ov_fieldAddr rfl rfl fa73_2 rfl)) ?_
     refine D_oneV (i := 8) rfl yk rfl rfl yd xaay (OpX.v (ov_fieldAddr rfl rfl fa55_0 rfl)) ?_
     refine D_oneV (i := 9) rfl yk rfl rfl yd xaay (OpX.v (ov_load rfl rfl ye ⟨⟨trivial, yn⟩, yn⟩ rfl rfl tok26)) ?_
     refine D_oneV (i := 10) rfl yk rfl rfl yd xaay (OpX.v (ov_conv64 rfl rfl Tryz.underlying26 Tryz.underlying111)) ?_
     refine D_oneV (i := 11) rfl yk rfl rfl yd xaay (OpX.v (ov_shl64 (a := 1#64) rfl rfl rfl ya)) ?_
     refine D_oneV (i := 12) rfl yk rfl rfl yd xaay (OpX.v (ov_bits rfl rfl rfl (.inr (.inr (.inr ⟨rfl, rfl⟩))))) ?_
     refine D_oneV (i := 13) rfl yk rfl rfl yd xaay (OpX.v (ov_nilptr rfl rfl)) ?_
     refine D_oneV (i := 14) rfl yk rfl rfl yd xaay (OpX.v (ov_fieldAddr rfl rfl fa73_0 rfl)) ?_
     refine D_oneV (i := 15) rfl yk rfl rfl yd xaay (OpX.v (ov_fieldAddr rfl rfl fa31_2 rfl)) ?_
     refine D_one (i := 16) rfl yk rfl trivial (ol_st1 rfl rfl rfl ⟨⟨trivial, yn⟩, yn⟩ rfl yf tok23 ⟨xaay, ?_⟩)
     refine D_end yk ?_
     refine w1 ((yR (ov_load1 rfl rfl ye Tryz.isAgg70) ?_))
     refine yR (ov_nilptr rfl rfl) ?_
     refine yR (ov_fieldAddr rfl rfl fa73_2 rfl) ?_
     refine yR (ov_fieldAddr rfl rfl fa55_2 rfl) ?_
     refine yR (ov_load rfl rfl ye ⟨⟨trivial, yn⟩, yn⟩ rfl rfl tok5) ?_
     refine yR (ov_neq rfl rfl rfl) ?_
     refine yM ?_
     refine gM ?_
     refine yG (fun hg => OpX.v (ov_load1 rfl rfl ye Tryz.isAgg70)) ?_
     refine yG (fun hg => OpX.v (ov_nilptr rfl (look_gv rfl (bq hg)))) ?_
     refine yG (fun hg => OpX.v (ov_fieldAddr rfl (look_gv rfl (bq hg)) fa73_2 rfl)) ?_
     refine yG (fun hg => OpX.v (ov_fieldAddr rfl (look_gv rfl (bq hg)) fa55_0 rfl)) ?_
     refine yG (fun hg => OpX.v (ov_load rfl (look_gv rfl (bq hg)) ye ⟨⟨trivial, yn⟩, yn⟩ rfl rfl tok26)) ?_
     refine yG (fun hg => OpX.v (ov_convn rfl (look_gv rfl (bq hg)) Tryz.underlying26 Tryz.underlying3 ya)) ?_
     refine yG (fun hg => ov_call  rfl (look_gv rfl (bq hg)) (looks_cons (look_gv rfl (bq hg)) looks_nil) Tryz.call110 (c_after_mover_pocket_1 _ _ was m tk bm 73 b1 70 _ ye ye)) ?_
     refine yR (ov_or rfl rfl rfl rfl (fun h => bq h)) ?_
     refine RO_nil (W_cond rfl (fun hc6 => ?_) (fun hc6 => ?_))
     ·
      refine W_regD (fun i => !Nat.beq i 16) mixed (fun w0 => ?_)
      refine D_mem0 (i := 0) rfl yk yk rfl rfl yd (ov_load1 rfl rfl ye Tryz.isAgg70) ?_
      refine D_mem0 (i := 1) rfl yk yk rfl rfl yd (ov_nilptr rfl rfl) ?_
      refine D_mem0 (i := 2) rfl yk yk rfl rfl yd (ov_fieldAddr rfl rfl fa73_0 rfl) ?_
      refine D_mem0 (i := 3) rfl yk yk rfl rfl yd (ov_fieldAddr rfl rfl fa31_2 rfl) ?_
      refine D_mem0 (i := 4) rfl yk yk rfl rfl yd (ov_load rfl rfl ye ⟨⟨trivial, yn⟩, yn⟩ rfl rfl tok23) ?_
      refine D_oneV (i := 5) rfl yk rfl rfl yd xaay (OpX.v (ov_load1 rfl rfl ye Tryz.isAgg70)) ?_
      refine D_oneV (i := 6) rfl yk rfl rfl yd xaay (OpX.v (ov_nilptr rfl rfl)) ?_
      refine D_oneV (i := 7) rfl yk rfl rfl yd xaay (OpX.v (ov_fieldAddr rfl rfl fa73_2 rfl)) ?_
      refine D_oneV (i := 8) rfl yk rfl rfl yd xaay (OpX.v (ov_fieldAddr rfl rfl fa55_1 rfl)) ?_
      refine D_oneV (i := 9) rfl yk rfl rfl yd xaay (OpX.v (ov_load rfl rfl ye ⟨⟨trivial, yn⟩, yn⟩ rfl rfl tok26)) ?_
      refine D_oneV (i := 10) rfl yk rfl rfl yd xaay (OpX.v (ov_conv64 rfl rfl Tryz.underlying26 Tryz.underlying111)) ?_
      refine D_oneV (i := 11) rfl yk rfl rfl yd xaay (OpX.v (ov_shl64 (a := 1#64) rfl rfl rfl ya)) ?_
      refine D_oneV (i := 12) rfl yk rfl rfl yd xaay (OpX.v (ov_bits rfl rfl rfl (.inr (.inl ⟨rfl, rfl⟩)))) ?_
      refine D_oneV (i := 13) rfl yk rfl rfl yd xaay (OpX.v (ov_nilptr rfl rfl)) ?_
      refine D_oneV (i := 14) rfl yk rfl rfl yd xaay (OpX.v (ov_fieldAddr rfl rfl fa73_0 rfl)) ?_
      refine D_oneV (i := 15) rfl yk rfl rfl yd xaay (OpX.v (ov_fieldAddr rfl rfl fa31_2 rfl)) ?_
      refine D_one (i := 16) rfl yk rfl trivial (ol_st1 rfl rfl rfl ⟨⟨trivial, yn⟩, yn⟩ rfl yf tok23 ⟨xaay, ?_⟩)
      refine D_end yk ?_
      refine ⟨trivial, _, .box bm 73 moverT (pocketQ q was m tk, was, m, tk, ()) :: M, (ResV_none rfl), ?_, rfl⟩
      exact xbfy
     ·
      refine W_skip ⟨trivial, _, .box bm 73 moverT (pocketQ q was m tk, was, m, tk, ()) :: M, (ResV_none rfl), ?_, rfl⟩
      exact xbfy
    ·
     refine W_skip (W_seq (W_regD (fun i => !Nat.beq i 14) mixed (fun w0 => ?_)))
     refine D_mem0 (i := 0) rfl yk yk rfl rfl yd (ov_load1 rfl rfl ye Tryz.isAgg70) ?_
     refine D_mem0 (i := 1) rfl yk yk rfl rfl yd (ov_load1 rfl rfl ye Tryz.isAgg70) ?_
     refine D_mem0 (i := 2) rfl yk yk rfl rfl yd (ov_nilptr rfl rfl) ?_
     refine D_mem0 (i := 3) rfl yk yk rfl rfl yd (ov_fieldAddr rfl rfl fa73_0 rfl) ?_
     refine D_mem0 (i := 4) rfl yk yk rfl rfl yd (ov_load rfl rfl ye ⟨trivial, yn⟩ rfl rfl tok31) ?_
     refine D_mem0 (i := 5) rfl yk yk rfl rfl yd (ov_load1 rfl rfl ye Tryz.isAgg70) ?_
     refine D_mem0 (i := 6) rfl yk yk rfl rfl yd (ov_nilptr rfl rfl) ?_
     refine D_mem0 (i := 7) rfl yk yk rfl rfl yd (ov_fieldAddr rfl rfl fa73_0 rfl) ?_
     refine D_mem0 (i := 8) rfl yk yk rfl rfl yd (ov_fieldAddr rfl rfl fa31_4 rfl) ?_
     refine D_mem0 (i := 9) rfl yk yk rfl rfl yd (ov_load rfl rfl ye ⟨⟨trivial, yn⟩, yn⟩ rfl rfl tok5) ?_
     refine D_oneV (i := 10) rfl yk rfl rfl yd xaay (OpX.v (ov_move rfl rfl)) ?_
     refine D_oneV (i := 11) rfl yk rfl rfl yd xaay (yV rfl rfl rfl Tryz.call111 (c_drop_Add q hq (tu q) _ _ htu.1 htu.2 (by first | decide | exact hkk.1) (by first | decide | exact hkk.2))) ?_
     refine D_oneV (i := 12) rfl yk rfl rfl yd xaay (OpX.v (ov_nilptr rfl rfl)) ?_
     refine D_oneV (i := 13) rfl yk rfl rfl yd xaay (OpX.v (ov_fieldAddr rfl rfl fa73_0 rfl)) ?_
     refine D_one (i := 14) rfl yk rfl trivial (ol_st1 rfl rfl rfl ⟨trivial, yn⟩ rfl yf tok31 ⟨xaay, ?_⟩)
     refine D_end yk ?_
     refine W_regD (fun i => !Nat.beq i 15) mixed (fun w0 => ?_)
     refine D_mem0 (i := 0) rfl yk yk rfl rfl yd (ov_load1 rfl rfl ye Tryz.isAgg70) ?_
     refine D_mem0 (i := 1) rfl yk yk rfl rfl yd (ov_nilptr rfl rfl) ?_
     refine D_mem0 (i := 2) rfl yk yk rfl rfl yd (ov_fieldAddr rfl rfl fa73_0 rfl) ?_
     refine D_mem0 (i := 3) rfl yk yk rfl rfl yd (ov_fieldAddr rfl rfl fa31_2 rfl) ?_
     refine D_mem0 (i := 4) rfl yk yk rfl rfl yd (ov_load rfl rfl ye ⟨⟨trivial, yn⟩, yn⟩ rfl rfl tok23) ?_
     refine D_oneV (i := 5) rfl yk rfl rfl yd xaay (OpX.v (ov_load1 rfl rfl ye Tryz.isAgg70)) ?_
     refine D_oneV (i := 6) rfl yk rfl rfl yd xaay (OpX.v (ov_nilptr rfl rfl)) ?_
     refine D_oneV (i := 7) rfl yk rfl rfl yd xaay (OpX.v (ov_fieldAddr rfl rfl fa73_3 rfl)) ?_
     refine D_oneV (i := 8) rfl yk rfl rfl yd xaay (OpX.v (ov_load rfl rfl ye ⟨trivial, yn⟩ rfl rfl tok3)) ?_
     refine D_oneV (i := 9) rfl yk rfl rfl yd xaay (OpX.v (ov_conv64 rfl rfl Tryz.underlying3 Tryz.underlying111)) ?_
     refine D_oneV (i := 10) rfl yk rfl rfl yd xaay (OpX.v (ov_shl64 (a := 1#64) rfl rfl rfl ya)) ?_
     refine D_oneV (i := 11) rfl yk rfl rfl yd xaay (OpX.v (ov_bits rfl rfl rfl (.inr (.inr (.inr ⟨rfl, rfl⟩))))) ?_
     refine D_oneV (i := 12) rfl yk rfl rfl yd xaay (OpX.v (ov_nilptr rfl rfl)) ?_
     refine D_oneV (i := 13) rfl yk rfl rfl yd xaay (OpX.v (ov_fieldAddr rfl rfl fa73_0 rfl)) ?_
     refine D_oneV (i := 14) rfl yk rfl rfl yd xaay (OpX.v (ov_fieldAddr rfl rfl fa31_2 rfl)) ?_
     refine D_one (i := 15) rfl yk rfl trivial (ol_st1 rfl rfl rfl ⟨⟨trivial, yn⟩, yn⟩ rfl yf tok23 ⟨xaay, ?_⟩)
     refine D_end yk ?_
     refine W_seq (W_regD (fun i => !Nat.beq i 16) mixed (fun w0 => ?_))
     refine D_mem0 (i := 0) rfl yk yk rfl rfl yd (ov_load1 rfl rfl ye Tryz.isAgg70) ?_
     refine D_mem0 (i := 1) rfl yk yk rfl rfl yd (ov_nilptr rfl rfl) ?_
     refine D_mem0 (i := 2) rfl yk yk rfl rfl yd (ov_fieldAddr rfl rfl fa73_0 rfl) ?_
     refine D_mem0 (i := 3) rfl yk yk rfl rfl yd (ov_fieldAddr rfl rfl fa31_2 rfl) ?_
     refine D_mem0 (i := 4) rfl yk yk rfl rfl yd (ov_load rfl rfl ye ⟨⟨trivial, yn⟩, yn⟩ rfl rfl tok23) ?_
     refine D_oneV (i := 5) rfl yk rfl rfl yd xaay (OpX.v (ov_load1 rfl rfl ye Tryz.isAgg70)) ?_
     refine D_oneV (i := 6) rfl yk rfl rfl yd xaay (OpX.v (ov_nilptr rfl rfl)) ?_
     refine D_oneV (i := 7) rfl yk rfl rfl yd xaay (OpX.v (ov_fieldAddr rfl rfl fa73_2 rfl)) ?_
     refine D_oneV (i := 8) rfl yk rfl rfl yd xaay (OpX.v (ov_fieldAddr rfl rfl fa55_0 rfl)) ?_
     refine D_oneV (i := 9) rfl yk rfl rfl yd xaay (OpX.v (ov_load rfl rfl ye ⟨⟨trivial, yn⟩, yn⟩ rfl rfl tok26)) ?_
     refine D_oneV (i := 10) rfl yk rfl rfl yd xaay (OpX.v (ov_conv64 rfl rfl Tryz.underlying26 Tryz.underlying111)) ?_
     refine D_oneV (i := 11) rfl yk rfl rfl yd xaay (OpX.v (ov_shl64 (a := 1#64) rfl rfl rfl ya)) ?_
     refine D_oneV (i := 12) rfl yk rfl rfl yd xaay (OpX.v (ov_bits rfl rfl rfl (.inr (.inr (.inr ⟨rfl, rfl⟩))))) ?_
     refine D_oneV (i := 13) rfl yk rfl rfl yd xaay (OpX.v (ov_nilptr rfl rfl)) ?_
     refine D_oneV (i := 14) rfl yk rfl rfl yd xaay (OpX.v (ov_fieldAddr rfl rfl fa73_0 rfl)) ?_
     refine D_oneV (i := 15) rfl yk rfl rfl yd xaay (OpX.v (ov_fieldAddr rfl rfl fa31_2 rfl)) ?_
     refine D_one (i := 16) rfl yk rfl trivial (ol_st1 rfl rfl rfl ⟨⟨trivial, yn⟩, yn⟩ rfl yf tok23 ⟨xaay, ?_⟩)
     refine D_end yk ?_
     refine w1 ((yR (ov_load1 rfl rfl ye Tryz.isAgg70) ?_))
     refine yR (ov_nilptr rfl rfl) ?_
     refine yR (ov_fieldAddr rfl rfl fa73_2 rfl) ?_
     refine yR (ov_fieldAddr rfl rfl fa55_2 rfl) ?_
     refine yR (ov_load rfl rfl ye ⟨⟨trivial, yn⟩, yn⟩ rfl rfl tok5) ?_
     refine yR (ov_neq rfl rfl rfl) ?_
     refine yM ?_
     refine gM ?_
     refine yG (fun hg => OpX.v (ov_load1 rfl rfl ye Tryz.isAgg70)) ?_
     refine yG (fun hg => OpX.v (ov_nilptr rfl (look_gv rfl (bq hg)))) ?_
     refine yG (fun hg => OpX.v (ov_fieldAddr rfl (look_gv rfl (bq hg)) fa73_2 rfl)) ?_
     refine yG (fun hg => OpX.v (ov_fieldAddr rfl (look_gv rfl (bq hg)) fa55_0 rfl)) ?_
     refine yG (fun hg => OpX.v (ov_load rfl (look_gv rfl (bq hg)) ye ⟨⟨trivial, yn⟩, yn⟩ rfl rfl tok26)) ?_
     refine yG (fun hg => OpX.v (ov_convn rfl (look_gv rfl (bq hg)) Tryz.underlying26 Tryz.underlying3 ya)) ?_
     refine yG (fun hg => ov_call  rfl (look_gv rfl (bq hg)) (looks_cons (look_gv rfl (bq hg)) looks_nil) Tryz.call110 (c_after_mover_pocket_1 _ _ was m tk bm 73 b1 70 _ ye ye)) ?_
     refine yR (ov_or rfl rfl rfl rfl (fun h => bq h)) ?_
     refine RO_nil (W_cond rfl (fun hc7 => ?_) (fun hc7 => ?_))
     ·
      refine W_regD (fun i => !Nat.beq i 16) mixed (fun w0 => ?_)
      refine D_mem0 (i := 0) rfl yk yk rfl rfl yd (ov_load1 rfl rfl ye Tryz.isAgg70) ?_
      refine D_mem0 (i := 1) rfl yk yk rfl rfl yd (ov_nilptr rfl rfl) ?_
      refine D_mem0 (i := 2) rfl yk yk rfl rfl yd (ov_fieldAddr rfl rfl fa73_0 rfl) ?_
      refine D_mem0 (i := 3) rfl yk yk rfl rfl yd (ov_fieldAddr rfl rfl fa31_2 rfl) ?_
      refine D_mem0 (i := 4) rfl yk yk rfl rfl yd (ov_load rfl rfl ye ⟨⟨trivial, yn⟩, yn⟩ rfl rfl tok23) ?_
      refine D_oneV (i := 5) rfl yk rfl rfl yd xaay (OpX.v (ov_load1 rfl rfl ye Tryz.isAgg70)) ?_
      refine D_oneV (i := 6) rfl yk rfl rfl yd xaay (OpX.v (ov_nilptr rfl rfl)) ?_
      refine D_oneV (i := 7) rfl yk rfl rfl yd xaay (OpX.v (ov_fieldAddr rfl rfl fa73_2 rfl)) ?_
      refine D_oneV (i := 8) rfl yk rfl rfl yd xaay (OpX.v (ov_fieldAddr rfl rfl fa55_1 rfl)) ?_
      refine D_oneV (i := 9) rfl yk rfl rfl yd xaay (OpX.v (ov_load rfl rfl ye ⟨⟨trivial, yn⟩, yn⟩ rfl rfl tok26)) ?_
      refine D_oneV (i := 10) rfl yk rfl rfl yd xaay (OpX.v (ov_conv64 rfl rfl Tryz.underlying26 Tryz.underlying111)) ?_
      refine D_oneV (i := 11) rfl yk rfl rfl yd xaay (OpX.v (ov_shl64 (a := 1#64) rfl rfl rfl ya)) ?_
      refine D_oneV (i := 12) rfl yk rfl rfl yd xaay (OpX.v (ov_bits rfl rfl rfl (.inr (.inl ⟨rfl, rfl⟩)))) ?_
      refine D_oneV (i := 13) rfl yk rfl rfl yd xaay (OpX.v (ov_nilptr rfl rfl)) ?_
      refine D_oneV (i := 14) rfl yk rfl rfl yd xaay (OpX.v (ov_fieldAddr rfl rfl fa73_0 rfl)) ?_
      refine D_oneV (i := 15) rfl yk rfl rfl yd xaay (OpX.v (ov_fieldAddr rfl rfl fa31_2 rfl)) ?_
      refine D_one (i := 16) rfl yk rfl trivial (ol_st1 rfl rfl rfl ⟨⟨trivial, yn⟩, yn⟩ rfl yf tok23 ⟨xaay, ?_⟩)
      refine D_end yk ?_
      refine ⟨trivial, _, .box bm 73 moverT (pocketQ q was m tk, was, m, tk, ()) :: M, (ResV_none rfl), ?_, rfl⟩
      exact xbfy
     ·
      refine W_skip ⟨trivial, _, .box bm 73 moverT (pocketQ q was m tk, was, m, tk, ()) :: M, (ResV_none rfl), ?_, rfl⟩
      exact xbfy
   ·
    refine W_skip (W_seq (W_regD (fun i => !Nat.beq i 16) mixed (fun w0 => ?_)))
    refine D_mem0 (i := 0) rfl yk yk rfl rfl yd (ov_load1 rfl rfl ye Tryz.isAgg70) ?_
    refine D_mem0 (i := 1) rfl yk yk rfl rfl yd (ov_nilptr rfl rfl) ?_
    refine D_mem0 (i := 2) rfl yk yk rfl rfl yd (ov_fieldAddr rfl rfl fa73_0 rfl) ?_
    refine D_mem0 (i := 3) rfl yk yk rfl rfl yd (ov_fieldAddr rfl rfl fa31_2 rfl) ?_
    refine D_mem0 (i := 4) rfl yk yk rfl rfl yd (ov_load rfl rfl ye ⟨⟨trivial, yn⟩, yn⟩ rfl rfl tok23) ?_
    refine D_oneV (i := 5) rfl yk rfl rfl yd xaay (OpX.v (ov_load1 rfl rfl ye Tryz.isAgg70)) ?_
    refine D_oneV (i := 6) rfl yk rfl rfl yd xaay (OpX.v (ov_nilptr rfl rfl)) ?_
    refine D_oneV (i := 7) rfl yk rfl rfl yd xaay (OpX.v (ov_fieldAddr rfl rfl fa73_2 rfl)) ?_
    refine D_oneV (i := 8) rfl yk rfl rfl yd xaay (OpX.v (ov_fieldAddr rfl rfl fa55_0 rfl)) ?_
    refine D_oneV (i := 9) rfl yk rfl rfl yd xaay (OpX.v (ov_load rfl rfl ye ⟨⟨trivial, yn⟩, yn⟩ rfl rfl tok26)) ?_
    refine D_oneV (i := 10) rfl yk rfl rfl yd xaay (OpX.v (ov_conv64 rfl rfl Tryz.underlying26 Tryz.underlying111)) ?_
    refine D_oneV (i := 11) rfl yk rfl rfl yd xaay (OpX.v (ov_shl64 (a := 1#64) rfl rfl rfl ya)) ?_
    refine D_oneV (i := 12) rfl yk rfl rfl yd xaay (OpX.v (ov_bits rfl rfl rfl (.inr (.inr (.inr ⟨rfl, rfl⟩))))) ?_
    refine D_oneV (i := 13) rfl yk rfl rfl yd xaay (OpX.v (ov_nilptr rfl rfl)) ?_
    refine D_oneV (i := 14) rfl yk rfl rfl yd xaay (OpX.v (ov_fieldAddr rfl rfl fa73_0 rfl)) ?_
    refine D_oneV (i := 15) rfl yk rfl rfl yd xaay (OpX.v (ov_fieldAddr rfl rfl fa31_2 rfl)) ?_
    refine D_one (i := 16) rfl yk rfl trivial (ol_st1 rfl rfl rfl ⟨⟨trivial, yn⟩, yn⟩ rfl yf tok23 ⟨xaay, ?_⟩)
    refine D_end yk ?_
    refine w1 ((yR (ov_load1 rfl rfl ye Tryz.isAgg70) ?_))
    refine yR (ov_nilptr rfl rfl) ?_
    refine yR (ov_fieldAddr rfl rfl fa73_2 rfl) ?_
    refine yR (ov_fieldAddr rfl rfl fa55_2 rfl) ?_
    refine yR (ov_load rfl rfl ye ⟨⟨trivial, yn⟩, yn⟩ rfl rfl tok5) ?_
    refine yR (ov_neq rfl rfl rfl) ?_
    refine yM ?_
    refine gM ?_
    refine yG (fun hg => OpX.v (ov_load1 rfl rfl ye Tryz.isAgg70)) ?_
    refine yG (fun hg => OpX.v (ov_nilptr rfl (look_gv rfl (bq hg)))) ?_
    refine yG (fun hg => OpX.v (ov_fieldAddr rfl (look_gv rfl (bq hg)) fa73_2 rfl)) ?_
    refine yG (fun hg => OpX.v (ov_fieldAddr rfl (look_gv rfl (bq hg)) fa55_0 rfl)) ?_
    refine yG (fun hg => OpX.v (ov_load rfl (look_gv rfl (bq hg)) ye ⟨⟨trivial, yn⟩, yn⟩ rfl rfl tok26)) ?_
    refine yG (fun hg => OpX.v (ov_convn rfl (look_gv rfl (bq hg)) Tryz.underlying26 Tryz.underlying3 ya)) ?_
    refine yG (fun hg => ov_call  rfl (look_gv rfl (bq hg)) (looks_cons (look_gv rfl (bq hg)) looks_nil) Tryz.call110 (c_after_mover_pocket_1 _ _ was m tk bm 73 b1 70 _ ye ye)) ?_
    refine yR (ov_or rfl rfl rfl rfl (fun h => bq h)) ?_
    refine RO_nil (W_cond rfl (fun hc8 => ?_) (fun hc8 => ?_))
    ·
     refine W_regD (fun i => !Nat.beq i 16) mixed (fun w0 => ?_)
     refine D_mem0 (i := 0) rfl yk yk rfl rfl yd (ov_load1 rfl rfl ye Tryz.isAgg70) ?_
     refine D_mem0 (i := 1) rfl yk yk rfl rfl yd (ov_nilptr rfl rfl) ?_
     refine D_mem0 (i := 2) rfl yk yk rfl rfl yd (ov_fieldAddr rfl rfl fa73_0 rfl) ?_
     refine D_mem0 (i := 3) rfl yk yk rfl rfl yd (ov_fieldAddr rfl rfl fa31_2 rfl) ?_
     refine D_mem0 (i := 4) rfl yk yk rfl rfl yd (ov_load rfl rfl ye ⟨⟨trivial, yn⟩, yn⟩ rfl rfl tok23) ?_
     refine D_oneV (i := 5) rfl yk rfl rfl yd xaay (OpX.v (ov_load1 rfl rfl ye Tryz.isAgg70)) ?_
     refine D_oneV (i := 6) rfl yk rfl rfl yd xaay (OpX.v (ov_nilptr rfl rfl)) ?_
     refine D_oneV (i := 7) rfl yk rfl rfl yd xaay (OpX.v (ov_fieldAddr rfl rfl fa73_2 rfl)) ?_
     refine D_oneV (i := 8) rfl yk rfl rfl yd xaay (OpX.v (ov_fieldAddr rfl rfl fa55_1 rfl)) ?_
     refine D_oneV (i := 9) rfl yk rfl rfl yd xaay (OpX.v (ov_load rfl rfl ye ⟨⟨trivial, yn⟩, yn⟩ rfl rfl tok26)) ?_
     refine D_oneV (i := 10) rfl yk rfl rfl yd xaay (OpX.v (ov_conv64 rfl rfl Tryz.underlying26 Tryz.underlying111)) ?_
     refine D_oneV (i := 11) rfl yk rfl rfl yd xaay (OpX.v (ov_shl64 (a := 1#64) rfl rfl rfl ya)) ?_
     refine D_oneV (i := 12) rfl yk rfl rfl yd xaay (OpX.v (ov_bits rfl rfl rfl (.inr (.inl ⟨rfl, rfl⟩)))) ?_
     refine D_oneV (i := 13) rfl yk rfl rfl yd xaay (OpX.v (ov_nilptr rfl rfl)) ?_
     refine D_oneV (i := 14) rfl yk rfl rfl yd xaay (OpX.v (ov_fieldAddr rfl rfl fa73_0 rfl)) ?_
     refine D_oneV (i := 15) rfl yk rfl rfl yd xaay (OpX.v (ov_fieldAddr rfl rfl fa31_2 rfl)) ?_
     refine D_one (i := 16) rfl yk rfl trivial (ol_st1 rfl rfl rfl ⟨⟨trivial, yn⟩, yn⟩ rfl yf tok23 ⟨xaay, ?_⟩)
     refine D_end yk ?_
     refine ⟨trivial, _, .box bm 73 moverT (pocketQ q was m tk, was, m, tk, ()) :: M, (ResV_none rfl), ?_, rfl⟩
     exact xbfy
    ·
     refine W_skip ⟨trivial, _, .box bm 73 moverT (pocketQ q was m tk, was, m, tk, ()) :: M, (ResV_none rfl), ?_, rfl⟩
     exact xbfy

theorem c_after_mover_blow (q was : Pos) (m : Mv) (tk : Int) (bm : Nat) (M : List Fact) (hq : POK q) (hw : POK was) (hm : MOK m) (ht : tu q ≤ 1) (hF : 0 ≤ mF m ∧ mF m < 64) (hT : 0 ≤ mT m ∧ mT m < 64) (htk : -1 ≤ tk ∧ tk < 64) (hTB : TAB ∈ M) : Con Tryz.prog 50 [ptrv bm moverT []] (.box bm 73 moverT (q, was, m, tk, ()) :: M) (fun v M' => M' = .box bm 73 moverT (blowQ q m tk, was, m, tk, ()) :: M) := by
 have hb := hq.board
 have hpw := hq.wf
 have htu := hq.tu
 have hbw := hw.board
 have hww := hw.wf
 have hvq := hq.vr
 have htu0 := hq.tu
 simp only [tu] at htu0
 have ht2 := ht
 simp only [tu] at ht2
 have hmd := hm.d
 have hmp := hm.p
 have hmd0 := hm.d
 simp only [mD] at hmd0
 have hmp0 := hm.p
 simp only [mP] at hmp0
 have hF0 := hF
 simp only [mF] at hF0
 have hT0 := hT
 simp only [mT] at hT0
 have hFr : rng .i64 (mF m) := by simp only [rng]; omega
 have hTr : rng .i64 (mT m) := by simp only [rng]; omega
 have hmw := wf_move m
 have hmvw : wf moverT (q, was, m, tk, ()) := ⟨hpw, hww, hmw, trivial, trivial⟩
 have hbl := bitsOf_len (blownB q (mT m))
 refine con_of_W (n := 41) Tryz.func50 rfl rfl yn ?_
 refine W_seq (w1 ((yM ?_)))
 refine yR (ov_nilptr rfl rfl) ?_
 refine yR (ov_fieldAddr rfl rfl fa73_0 rfl) ?_
 refine yR (ov_fieldAddr rfl rfl fa31_0 rfl) ?_
 refine yR (ov_load rfl rfl ye ⟨⟨trivial, yn⟩, yn⟩ rfl rfl tok5) ?_
 refine yR (ov_neq rfl rfl rfl) ?_
 refine yM ?_
 refine gM ?_
 refine yG (fun hg => OpX.v (ov_nilptr rfl (look_gv rfl (bq hg)))) ?_
 refine yG (fun hg => OpX.v (ov_fieldAddr rfl (look_gv rfl (bq hg)) fa73_3 rfl)) ?_
 refine yG (fun hg => OpX.v (ov_load rfl (look_gv rfl (bq hg)) ye ⟨trivial, yn⟩ rfl rfl tok3)) ?_
 refine yG (fun hg => OpX.v (ov_lss rfl (look_gv rfl (bq hg)) rfl)) ?_
 refine yR (ov_or rfl rfl rfl rfl (fun h => bq h)) ?_
 refine RO_nil (W_cond rfl (fun hc1 => ?_) (fun hc1 => ?_))
 ·
  refine W_ret ⟨trivial, _, .box bm 73 moverT (blowQ q m tk, was, m, tk, ()) :: M, (ResV_none rfl), ?_, rfl⟩
  first | (rw [show blowQ q m tk = _ from if_pos hc1]; exact yb) | (rw [show blowQ q m tk = _ from if_neg (Bool.eq_false_iff.1 hc1), ← blowF_all q (bitsOf (blownB q (mT m))) (i := i) yo]; exact yb)
 ·
  refine W_skip (W_seq (W_regD (fun i => true) mixed (fun w0 => ?_)))
  refine D_mem0 (i := 0) rfl yk yk rfl rfl yd (ov_move rfl rfl) ?_
  refine D_mem0 (i := 1) rfl yk yk rfl rfl yd (ov_nilptr rfl rfl) ?_
  refine D_mem0 (i := 2) rfl yk yk rfl rfl yd (ov_fieldAddr rfl rfl fa73_0 rfl) ?_
  refine D_mem0 (i := 3) rfl yk yk rfl rfl yd (ov_load rfl rfl ye ⟨trivial, yn⟩ rfl rfl tok31) ?_
  refine D_mem0 (i := 4) rfl yk yk rfl rfl yd (ov_move rfl rfl) ?_
  refine D_mem0 (i := 5) rfl yk yk rfl rfl yd (ov_nilptr rfl rfl) ?_
  refine D_mem0 (i := 6) rfl yk yk rfl rfl yd (ov_fieldAddr rfl rfl fa73_2 rfl) ?_
  refine D_mem0 (i := 7) rfl yk yk rfl rfl yd (ov_fieldAddr rfl rfl fa55_1 rfl) ?_
  refine D_mem0 (i := 8) rfl yk yk rfl rfl yd (ov_load rfl rfl ye ⟨⟨trivial, yn⟩, yn⟩ rfl rfl tok26) ?_
  refine D_mem0 (i := 9) rfl yk yk rfl rfl yd (ov_convn rfl rfl Tryz.underlying26 Tryz.underlying3 ya) ?_
  refine D_mem0 (i := 13) rfl yk yk rfl rfl yd (ov_move rfl rfl) ?_
  refine D_oneV (i := 10) rfl yk rfl rfl yd xaay (yV rfl rfl rfl Tryz.call113 (c_after_Blown q hq (mT m) _)) ?_
  refine D_one (i := 11) rfl yk rfl (by decide : 28 < 41) (ol_call (v0 := []) (v2 := []) rfl rfl rfl Tryz.call112 (Con.mono (by apply c_bits_List <;> exact yz) ?_))
  rintro vL _ rfl
  refine ⟨xaay, ?_⟩
  refine D_oneV (i := 12) rfl yk rfl rfl yd xaay (OpX.v (ov_len rfl rfl xaby Tryz.underlying132)) ?_
  refine D_end yk ?_
  refine W_block (W_loop (σ := Nat) (fun s5 => s5 ≤ (bitsOf (blownB q (mT m))).length) (fun s5 => [(0, ptrv bm moverT []), (28, vL), (29, .int .i64 ((bitsOf (blownB q (mT m))).length : Int)), (30, .int .i64 (s5 : Int))]) (fun s5 => .row vL 3 i64 (bitsOf (blownB q (mT m))) :: .box bm 73 moverT (blowF q (bitsOf (blownB q (mT m))) s5, was, m, tk, ()) :: M) (fun s5 => (bitsOf (blownB q (mT m))).length - s5) (0) (by simp) ⟨rfl, rfl, rfl, rfl, trivial⟩ yb ?_)
  rintro i hI
  refine w1 ((yR (ov_lss rfl rfl rfl) ?_))
  refine RO_nil (W_seq (W_cond rfl (fun hc2 => ?_) (fun hc2 => ?_)))
  ·
   try simp only [yS] at hc2
   have hs64 := bits_at (blownB q (mT m)) i
   have hsA := hs64.1
   have hsB := hs64.2
   refine W_skip (W_seq (W_block (w1 ((yR (ov_indexAddr_sl (t := i64) rfl rfl xaby rfl Tryz.underlying132 Tryz.sizeOf3 ya ya) ?_)))))
   refine yR (ov_load_e (t := i64) (p := []) rfl rfl xaby ya trivial rfl rfl tok3) ?_
   refine yA_ ?_
   refine RO_nil (W_regl (fun w0 => ?_))
   refine zM ?_
   refine zM ?_
   refine yL (ov_nilptr rfl rfl) ?_
   refine yL (ov_fieldAddr rfl rfl fa73_0 rfl) ?_
   refine yL (ov_fieldAddr rfl rfl fa31_1 rfl) ?_
   refine yL (ov_indexAddr rfl rfl rfl Tryz.underlying22 rfl Tryz.sizeOf5 ya ya) ?_
   refine LO_l rfl trivial (ol_st1 rfl rfl rfl ⟨⟨⟨trivial, yn⟩, yn⟩, (tn ya ya)⟩ rfl yf tok5 ?_)
   refine LO_nil (W_reg (yR (ov_add rfl rfl rfl ya) ?_))
   refine yM ?_
   refine RO_nil ?_
   exact ⟨i + 1, yo, yo, ⟨rfl, rfl, rfl, rfl, trivial⟩, (by rw [blowF_next q (bitsOf (blownB q (mT m))) yo]; exact yb)⟩
  ·
   try simp only [yS] at hc2
   refine W_exit ⟨trivial, _, .box bm 73 moverT (blowQ q m tk, was, m, tk, ()) :: M, (ResV_none rfl), ?_, rfl⟩
   first | (rw [show blowQ q m tk = _ from if_pos hc1]; exact yb) | (rw [show blowQ q m tk = _ from if_neg (Bool.eq_false_iff.1 hc1), ← blowF_all q (bitsOf (blownB q (mT m))) (i := i) yo]; exact yb)
end Go.Kw
set_option linter.unusedVariables false
namespace Go.Kw
open Go.Proofs
theorem fa31_7 : FA Tryz.prog 31 7 84 := fun a w => by simp [Instr.fieldAt, Tryz.runUnderlying31, Instr.sureAddr, fieldPlace, Tryz.sizeOf29]
theorem fa31_8 : FA Tryz.prog 31 8 86 := fun a w => by simp [Instr.fieldAt, Tryz.runUnderlying31, Instr.sureAddr, fieldPlace, Tryz.sizeOf3]
theorem fa31_9 : FA Tryz.prog 31 9 87 := fun a w => by simp [Instr.fieldAt, Tryz.runUnderlying31, Instr.sureAddr, fieldPlace, Tryz.sizeOf3]

def moreP (x : Int) : Int := if 10000 ≤ x then x else x + 1
theorem more_rng {x : Int} (h : -9223372036854775808 ≤ x ∧ x ≤ 9223372036854775807) : -9223372036854775808 ≤ moreP x ∧ moreP x ≤ 9223372036854775807 := by unfold moreP; split <;> omega
def setHf (p : Pos) (x : Int) : Pos := (p.1, p.2.1, p.2.2.1, p.2.2.2.1, p.2.2.2.2.1, p.2.2.2.2.2.1, p.2.2.2.2.2.2.1, p.2.2.2.2.2.2.2.1, x, p.2.2.2.2.2.2.2.2.2)
def setFl (p : Pos) (x : Int) : Pos := (p.1, p.2.1, p.2.2.1, p.2.2.2.1, p.2.2.2.2.1, p.2.2.2.2.2.1, p.2.2.2.2.2.2.1, p.2.2.2.2.2.2.2.1, p.2.2.2.2.2.2.2.2.1, x, ())
def setTu (p : Pos) (x : Int) : Pos := (p.1, p.2.1, p.2.2.1, p.2.2.2.1, x, p.2.2.2.2.2)
def setPg (p : Pos) (x : Int) : Pos := (p.1, p.2.1, p.2.2.1, p.2.2.2.1, p.2.2.2.2.1, p.2.2.2.2.2.1, x, p.2.2.2.2.2.2.2)
def setCk (p : Pos) (c x : Int) : Pos := (p.1, p.2.1, p.2.2.1, p.2.2.2.1, p.2.2.2.2.1, p.2.2.2.2.2.1, p.2.2.2.2.2.2.1, (show List Int from p.2.2.2.2.2.2.2.1).set c.toNat x, p.2.2.2.2.2.2.2.2)
def ckAt (p : Pos) (c : Int) : Int := (ck p).getD c.toNat (zero u8)
theorem ckAt_rng {p : Pos} (hp : POK p) (c : Int) : 0 ≤ ckAt p c ∧ ckAt p c ≤ 255 := hp.ck c.toNat
theorem POK_setTu {p : Pos} (hp : POK p) {x : Int} (h0 : 0 ≤ x) (h1 : x ≤ 255) : POK (setTu p x) :=
  ⟨⟨trivial, hp.wf.2.1, trivial, hp.wf.2.2.2.1, trivial, hp.wf.2.2.2.2.2⟩, hp.board, hp.vr, ⟨h0, h1⟩, hp.pg, hp.hf, hp.fl, hp.pk, hp.rk, hp.ck⟩
theorem POK_setPg {p : Pos} (hp : POK p) {x : Int} (h0 : -128 ≤ x) (h1 : x ≤ 127) : POK (setPg p x) :=
  ⟨⟨trivial, hp.wf.2.1, trivial, hp.wf.2.2.2.1, trivial, hp.wf.2.2.2.2.2.1, trivial, hp.wf.2.2.2.2.2.2.2⟩, hp.board, hp.vr, hp.tu, ⟨h0, h1⟩, hp.hf, hp.fl, hp.pk, hp.rk, hp.ck⟩
def clk2 (q was : Pos) (m : Mv) (tk : Int) : Pos := if (decide (kindOf was m = 1) || decide (0 ≤ tk)) = true then setHf (setHf q (moreP (hf q))) 0 else setHf q (moreP (hf q))
def clk3 (q : Pos) : Pos := if decide (tu q = 1) = true then setFl q (moreP (fl q)) else q
def clocksQ (q was : Pos) (m : Mv) (tk : Int) : Pos := clk3 (clk2 q was m tk)
theorem tu_clk2 (q was : Pos) (m : Mv) (tk : Int) : tu (clk2 q was m tk) = tu q := by unfold clk2; split <;> rfl
theorem fl_clk2 (q was : Pos) (m : Mv) (tk : Int) : fl (clk2 q was m tk) = fl q := by unfold clk2; split <;> rfl
def turnQ (q : Pos) : Pos :=
  if ((decide (vr q = 5) && decide (ckAt q (1 - (1 - tu q)) < 3)) && checkP (setTu q (1 - tu q)) (1 - tu q)) = true then setCk (setTu q (1 - tu q)) (1 - (1 - tu q)) (ckAt q (1 - (1 - tu q)) + 1) else setTu q (1 - tu q)
def passQ (q was : Pos) (m : Mv) : Pos :=
  if ((!decide (kindOf was m = 1) || !decide (mD m = 0)) || (!decide (mT m - mF m = 16) && !decide (mF m - mT m = 16))) = true then setPg q (-1)
  else if (!decide (mF m / 8 = 7 * tu q + 1) && !decide (mF m / 8 = 7 * tu q - 1)) = true then setPg q (-1)
  else if (!decide (pawnB (tu q) ((mF m + mT m) / 2) &&& ofB (setPg q (-1)) (1 - tu q) 1 = 0#64)) = true then setPg (setPg q (-1)) ((mF m + mT m) / 2) else setPg q (-1)

theorem c_after_more (x : Int) (M : List Fact) (h0 : -9223372036854775808 ≤ x) : Pure Tryz.prog 118 [.int .i64 x] M (.int .i64 (moreP x)) := by
 refine pure_of_W (n := 8) Tryz.func118 rfl rfl yn ?_
 refine w1 ((yA_ ?_))
 refine RO_nil (W_seq (w1 ((yM ?_))))
 refine yR (ov_geq rfl rfl rfl) ?_
 refine RO_nil (W_cond rfl (fun hc1 => ?_) (fun hc1 => ?_))
 ·
  try simp only [yS] at hc1
  refine w1 ((yM ?_))
  refine yA_ ?_
  refine RO_nil (W_ret ⟨trivial, yb, (ResV_tmp1 rfl rfl ?_)⟩)
  exact val_int (by unfold moreP; first | exact (if_pos xaky).symm | exact (if_neg xaky).symm)
 ·
  try simp only [yS] at hc1
  refine W_skip (w1 ((yM ?_)))
  refine yR (ov_add rfl rfl rfl ya) ?_
  refine yA_ ?_
  refine RO_nil (W_ret ⟨trivial, yb, (ResV_tmp1 rfl rfl ?_)⟩)
  exact val_int (by unfold moreP; first | exact (if_pos xaky).symm | exact (if_neg xaky).symm)

theorem c_after_mover_clocks (q was : Pos) (m : Mv) (tk : Int) (bm : Nat) (M : List Fact) (hq : POK q) (hw : POK was) (hm : MOK m) (ht : tu q ≤ 1) (hF : 0 ≤ mF m ∧ mF m < 64) (hT : 0 ≤ mT m ∧ mT m < 64) (htk : -1 ≤ tk ∧ tk < 64) : Con Tryz.prog 53 [ptrv bm moverT []] (.box bm 73 moverT (q, was, m, tk, ()) :: M) (fun v M' => M' = .box bm 73 moverT (clocksQ q was m tk, was, m, tk, ()) :: M) := by
 have hb := hq.board
 have hpw := hq.wf
 have htu := hq.tu
 have hbw := hw.board
 have hww := hw.wf
 have hvq := hq.vr
 have htu0 := hq.tu
 simp only [tu] at htu0
 have ht2 := ht
 simp only [tu] at ht2
 have hmd := hm.d
 have hmp := hm.p
 have hmd0 := hm.d
 simp only [mD] at hmd0
 have hmp0 := hm.p
 simp only [mP] at hmp0
 have hF0 := hF
 simp only [mF] at hF0
 have hT0 := hT
 simp only [mT] at hT0
 have hFr : rng .i64 (mF m) := by simp only [rng]; omega
 have hTr : rng .i64 (mT m) := by simp only [rng]; omega
 have hmw := wf_move m
 have hmvw : wf moverT (q, was, m, tk, ()) := ⟨hpw, hww, hmw, trivial, trivial⟩
 have hhf := hq.hf
 have hfl := hq.fl
 have hmr := more_rng hhf
 refine con_of_W (n := 42) Tryz.func53 rfl rfl yn ?_
 refine w2 (fun w0 => ?_)
 refine zM ?_
 refine zM ?_
 refine yL (ov_nilptr rfl rfl) ?_
 refine yL (ov_fieldAddr rfl rfl fa73_0 rfl) ?_
 refine yL (ov_fieldAddr rfl rfl fa31_8 rfl) ?_
 refine yL (ov_load rfl rfl ye ⟨⟨trivial, yn⟩, yn⟩ rfl rfl tok3) ?_
 refine yQ (yV rfl rfl rfl Tryz.call118 (c_after_more (hf q) _ hhf.1)) ?_
 refine yL (ov_nilptr rfl rfl) ?_
 refine yL (ov_fieldAddr rfl rfl fa73_0 rfl) ?_
 refine yL (ov_fieldAddr rfl rfl fa31_8 rfl) ?_
 refine LO_l rfl trivial (ol_st0 rfl rfl rfl ⟨⟨trivial, yn⟩, yn⟩ rfl yf tok3 ?_)
 refine LO_nil (W_cut [(0, ptrv bm moverT [])] (.box bm 73 moverT (clk2 q was m tk, was, m, tk, ()) :: M) ?_ ?_)
 ·
  refine w1 ((yM ?_))
  refine yP (yV rfl rfl rfl Tryz.call114 (c_after_mover_kind _ was m tk bm 73 _ hw hm hF ye)) ?_
  refine yR (ov_eql rfl rfl rfl) ?_
  refine yM ?_
  refine gM ?_
  refine yG (fun hg => OpX.v (ov_nilptr rfl (look_gv rfl (bq hg)))) ?_
  refine yG (fun hg => OpX.v (ov_fieldAddr rfl (look_gv rfl (bq hg)) fa73_3 rfl)) ?_
  refine yG (fun hg => OpX.v (ov_load rfl (look_gv rfl (bq hg)) ye ⟨trivial, yn⟩ rfl rfl tok3)) ?_
  refine yG (fun hg => OpX.v (ov_geq rfl (look_gv rfl (bq hg)) rfl)) ?_
  refine yR (ov_or rfl rfl rfl rfl (fun h => bq h)) ?_
  refine RO_nil (W_cond rfl (fun hc1 => ?_) (fun hc1 => ?_))
  ·
   refine W_regl (fun w0 => ?_)
   refine zM ?_
   refine yL (ov_nilptr rfl rfl) ?_
   refine yL (ov_fieldAddr rfl rfl fa73_0 rfl) ?_
   refine yL (ov_fieldAddr rfl rfl fa31_8 rfl) ?_
   refine LO_l rfl trivial (ol_st0 rfl rfl rfl ⟨⟨trivial, yn⟩, yn⟩ rfl yf tok3 ?_)
   refine LO_nil ?_
   exact ⟨⟨rfl, trivial⟩, (by first | (rw [show clk2 q was m tk = _ from if_pos hc1]; exact yb) | (rw [show clk2 q was m tk = _ from if_neg (Bool.eq_false_iff.1 hc1)]; exact yb))⟩
  ·
   refine W_skip ?_
   exact ⟨⟨rfl, trivial⟩, (by first | (rw [show clk2 q was m tk = _ from if_pos hc1]; exact yb) | (rw [show clk2 q was m tk = _ from if_neg (Bool.eq_false_iff.1 hc1)]; exact yb))⟩
 ·
  have htc := tu_clk2 q was m tk
  have hfc := fl_clk2 q was m tk
  refine w1 ((yM ?_))
  refine yR (ov_nilptr rfl rfl) ?_
  refine yR (ov_fieldAddr rfl rfl fa73_0 rfl) ?_
  refine yR (ov_fieldAddr rfl rfl fa31_4 rfl) ?_
  refine yR (ov_load rfl rfl ye ⟨⟨trivial, yn⟩, yn⟩ rfl rfl tok5) ?_
  refine yR (ov_eql rfl rfl rfl) ?_
  refine RO_nil (W_cond rfl (fun hc2 => ?_) (fun hc2 => ?_))
  ·
   refine W_regl (fun w0 => ?_)
   refine zM ?_
   refine zM ?_
   refine yL (ov_nilptr rfl rfl) ?_
   refine yL (ov_fieldAddr rfl rfl fa73_0 rfl) ?_
   refine yL (ov_fieldAddr rfl rfl fa31_9 rfl) ?_
   refine yL (ov_load rfl rfl ye ⟨⟨trivial, yn⟩, yn⟩ rfl rfl tok3) ?_
   refine yQ (yV rfl rfl rfl Tryz.call118 (c_after_more (fl (clk2 q was m tk)) _ (by rw [hfc]; exact hfl.1))) ?_
   refine yL (ov_nilptr rfl rfl) ?_
   refine yL (ov_fieldAddr rfl rfl fa73_0 rfl) ?_
   refine yL (ov_fieldAddr rfl rfl fa31_9 rfl) ?_
   refine LO_l rfl trivial (ol_st0 rfl rfl rfl ⟨⟨trivial, yn⟩, yn⟩ rfl yf tok3 ?_)
   refine LO_nil ⟨trivial, _, .box bm 73 moverT (clocksQ q was m tk, was, m, tk, ()) :: M, (ResV_none rfl), ?_, rfl⟩
   first | (rw [show clocksQ q was m tk = _ from if_pos hc2]; exact yb) | (rw [show clocksQ q was m tk = _ from if_neg (Bool.eq_false_iff.1 hc2)]; exact yb)
  ·
   refine W_skip ⟨trivial, _, .box bm 73 moverT (clocksQ q was m tk, was, m, tk, ()) :: M, (ResV_none rfl), ?_, rfl⟩
   first | (rw [show clocksQ q was m tk = _ from if_pos hc2]; exact yb) | (rw [show clocksQ q was m tk = _ from if_neg (Bool.eq_false_iff.1 hc2)]; exact yb)

theorem c_after_mover_turn (q was : Pos) (m : Mv) (tk : Int) (bm : Nat) (M : List Fact) (hq : POK q) (hw : POK was) (hm : MOK m) (ht : tu q ≤ 1) (hF : 0 ≤ mF m ∧ mF m < 64) (hT : 0 ≤ mT m ∧ mT m < 64) (htk : -1 ≤ tk ∧ tk < 64) (hTB : TAB ∈ M) : Con Tryz.prog 54 [ptrv bm moverT []] (.box bm 73 moverT (q, was, m, tk, ()) :: M) (fun v M' => M' = .box bm 73 moverT (turnQ q, was, m, tk, ()) :: M) := by
 have hb := hq.board
 have hpw := hq.wf
 have htu := hq.tu
 have hbw := hw.board
 have hww := hw.wf
 have hvq := hq.vr
 have htu0 := hq.tu
 simp only [tu] at htu0
 have ht2 := ht
 simp only [tu] at ht2
 have hmd := hm.d
 have hmp := hm.p
 have hmd0 := hm.d
 simp only [mD] at hmd0
 have hmp0 := hm.p
 simp only [mP] at hmp0
 have hF0 := hF
 simp only [mF] at hF0
 have hT0 := hT
 simp only [mT] at hT0
 have hFr : rng .i64 (mF m) := by simp only [rng]; omega
 have hTr : rng .i64 (mT m) := by simp only [rng]; omega
 have hmw := wf_move m
 have hmvw : wf moverT (q, was, m, tk, ()) := ⟨hpw, hww, hmw, trivial, trivial⟩
 have hqt := POK_setTu hq (x := 1 - tu q) yo yo
 have hqtw := hqt.wf
 have hs1 : @Eq Int ((setTu q (1 - tu q)).2.2.2.2.1) (1 - q.2.2.2.2.1) := rfl
 have hcr0 : @LE.le Int _ 0 (((setTu q (1 - tu q)).2.2.2.2.2.2.2.1).getD (1 - (setTu q (1 - tu q)).2.2.2.2.1).toNat (zero u8)) ∧ @LE.le Int _ (((setTu q (1 - tu q)).2.2.2.2.2.2.2.1).getD (1 - (setTu q (1 - tu q)).2.2.2.2.1).toNat (zero u8)) 255 := ckAt_rng hq (1 - (1 - tu q))
 refine con_of_W (n := 59) Tryz.func54 rfl rfl yn ?_
 refine w2 (fun w0 => ?_)
 refine zM ?_
 refine zM ?_
 refine yL (ov_nilptr rfl rfl) ?_
 refine yL (ov_fieldAddr rfl rfl fa73_0 rfl) ?_
 refine yL (ov_fieldAddr rfl rfl fa31_4 rfl) ?_
 refine yL (ov_load rfl rfl ye ⟨⟨trivial, yn⟩, yn⟩ rfl rfl tok5) ?_
 refine yL (ov_sub rfl rfl rfl ya) ?_
 refine yL (ov_nilptr rfl rfl) ?_
 refine yL (ov_fieldAddr rfl rfl fa73_0 rfl) ?_
 refine yL (ov_fieldAddr rfl rfl fa31_4 rfl) ?_
 refine LO_l rfl trivial (ol_st0 rfl rfl rfl ⟨⟨trivial, yn⟩, yn⟩ rfl yf tok5 ?_)
 refine LO_nil (W_seq ?_)
 show W Tryz.prog 59 _ _ _ (.box bm 73 moverT ((setTu q (1 - tu q)), was, m, tk, ()) :: M)
 refine W_reg (yM ?_)
 refine yR (ov_nilptr rfl rfl) ?_
 refine yR (ov_fieldAddr rfl rfl fa73_0 rfl) ?_
 refine yR (ov_fieldAddr rfl rfl fa31_4 rfl) ?_
 refine yR (ov_load rfl rfl ye ⟨⟨trivial, yn⟩, yn⟩ rfl rfl tok5) ?_
 refine yR (ov_sub rfl rfl rfl ya) ?_
 refine yA_ ?_
 refine RO_nil (W_seq (W_regd mixed yk ?_))
 refine yM ?_
 refine yR (ov_nilptr rfl rfl) ?_
 refine yR (ov_fieldAddr rfl rfl fa73_0 rfl) ?_
 refine yR (ov_fieldAddr rfl rfl fa31_0 rfl) ?_
 refine yR (ov_load rfl rfl ye ⟨⟨trivial, yn⟩, yn⟩ rfl rfl tok5) ?_
 refine yR (ov_eql rfl rfl rfl) ?_
 refine yM ?_
 refine RO_g1 rfl rfl rfl rfl rfl yd (fun hg => by have hgx := hg; (try simp only [yS] at hgx); exact OpX.v (ov_move rfl rfl)) ?_
 refine RO_g1 rfl rfl rfl rfl rfl yd (fun hg => by have hgx := hg; (try simp only [yS] at hgx); exact OpX.v (ov_move rfl rfl)) ?_
 refine RO_g1 rfl rfl rfl rfl rfl yd (fun hg => by have hgx := hg; (try simp only [yS] at hgx); exact OpX.v (ov_nilptr rfl (look_gv rfl (bq hg)))) ?_
 refine RO_g1 rfl rfl rfl rfl rfl yd (fun hg => by have hgx := hg; (try simp only [yS] at hgx); exact OpX.v (ov_fieldAddr rfl (look_gv rfl (bq hg)) fa73_0 rfl)) ?_
 refine RO_g1 rfl rfl rfl rfl rfl yd (fun hg => by have hgx := hg; (try simp only [yS] at hgx); exact OpX.v (ov_fieldAddr rfl (look_gv rfl (bq hg)) fa31_7 rfl)) ?_
 refine RO_g1 rfl rfl rfl rfl rfl yd (fun hg => by have hgx := hg; (try simp only [yS] at hgx); exact OpX.v (ov_indexAddr rfl (look_gv rfl (bq hg)) (look_gv rfl (bq hg)) Tryz.underlying29 rfl Tryz.sizeOf5 ya ya)) ?_
 refine RO_g1 rfl rfl rfl rfl rfl yd (fun hg => by have hgx := hg; (try simp only [yS] at hgx); exact OpX.v (ov_load rfl (look_gv rfl (bq hg)) ye ⟨⟨⟨trivial, yn⟩, yn⟩, (tn ya ya)⟩ rfl rfl tok5)) ?_
 refine RO_g1 rfl rfl rfl rfl rfl yd (fun hg => by have hgx := hg; (try simp only [yS] at hgx); exact OpX.v (ov_lss rfl (look_gv rfl (bq hg)) rfl)) ?_
 refine yR (ov_and rfl rfl rfl rfl (fun h => bq h)) ?_
 refine yM ?_
 refine RO_g1 rfl rfl rfl rfl rfl yd (fun hg => by have hgx := hg; (try simp only [yS] at hgx); exact OpX.v (ov_move rfl rfl)) ?_
 refine RO_g1 rfl rfl rfl rfl rfl yd (fun hg => by have hgx := hg; (try simp only [yS] at hgx); exact OpX.v (ov_nilptr rfl (look_gv rfl (bq hg)))) ?_
 refine RO_g1 rfl rfl rfl rfl rfl yd (fun hg => by have hgx := hg; (try simp only [yS] at hgx); exact OpX.v (ov_fieldAddr rfl (look_gv rfl (bq hg)) fa73_0 rfl)) ?_
 refine RO_g1 rfl rfl rfl rfl rfl yd (fun hg => by have hgx := hg; (try simp only [yS] at hgx); exact OpX.v (ov_load rfl (look_gv rfl (bq hg)) ye ⟨trivial, yn⟩ rfl rfl tok31)) ?_
 refine RO_g1 rfl rfl rfl rfl rfl yd (fun hg => by have hgx := hg; (try simp only [yS] at hgx); exact OpX.v (ov_move rfl rfl)) ?_
 refine RO_g1 rfl rfl rfl rfl rfl yd (fun hg => by have hgx := hg; (try simp only [yS] at hgx); exact OpX.v (ov_nilptr rfl (look_gv rfl (bq hg)))) ?_
 refine RO_g1 rfl rfl rfl rfl rfl yd (fun hg => by have hgx := hg; (try simp only [yS] at hgx); exact OpX.v (ov_fieldAddr rfl (look_gv rfl (bq hg)) fa73_0 rfl)) ?_
 refine RO_g1 rfl rfl rfl rfl rfl yd (fun hg => by have hgx := hg; (try simp only [yS] at hgx); exact OpX.v (ov_fieldAddr rfl (look_gv rfl (bq hg)) fa31_4 rfl)) ?_
 refine RO_g1 rfl rfl rfl rfl rfl yd (fun hg => by have hgx := hg; (try simp only [yS] at hgx); exact OpX.v (ov_load rfl (look_gv rfl (bq hg)) ye ⟨⟨trivial, yn⟩, yn⟩ rfl rfl tok5)) ?_
 refine RO_g1 rfl rfl rfl rfl rfl yd (fun hg => by have hgx := hg; (try simp only [yS] at hgx); exact yV rfl rfl (looks_cons (look_gv rfl (bq hg)) (looks_cons (look_gv rfl (bq hg)) looks_nil)) Tryz.call32 (c_attack_Check (setTu q (1 - tu q)) hqt (1 - tu q) _ ye yo yo)) ?_
 refine yR (ov_and rfl rfl rfl rfl (fun h => bq h)) ?_
 refine RO_nil (W_cond rfl (fun hc1 => ?_) (fun hc1 => ?_))
 ·
  have hc5 := of_decide_eq_true (Bool.and_eq_true_iff.1 (Bool.and_eq_true_iff.1 hc1).1).2
  have hc6 : @LT.lt Int _ (((setTu q (1 - tu q)).2.2.2.2.2.2.2.1).getD (1 - (setTu q (1 - tu q)).2.2.2.2.1).toNat (zero u8)) 3 := hc5
  refine W_regD (fun i => !Nat.beq i 12) mixed (fun w0 => ?_)
  refine D_mem0 (i := 0) rfl yk yk rfl rfl yd (ov_move rfl rfl) ?_
  refine D_mem0 (i := 1) rfl yk yk rfl rfl yd (ov_move rfl rfl) ?_
  refine D_mem0 (i := 2) rfl yk yk rfl rfl yd (ov_nilptr rfl rfl) ?_
  refine D_mem0 (i := 3) rfl yk yk rfl rfl yd (ov_fieldAddr rfl rfl fa73_0 rfl) ?_
  refine D_mem0 (i := 4) rfl yk yk rfl rfl yd (ov_fieldAddr rfl rfl fa31_7 rfl) ?_
  refine D_mem0 (i := 5) rfl yk yk rfl rfl yd (ov_indexAddr rfl rfl rfl Tryz.underlying29 rfl Tryz.sizeOf5 ya ya) ?_
  refine D_mem0 (i := 6) rfl yk yk rfl rfl yd (ov_load rfl rfl ye ⟨⟨⟨trivial, yn⟩, yn⟩, (tn ya ya)⟩ rfl rfl tok5) ?_
  refine D_mem0 (i := 7) rfl yk yk rfl rfl yd (ov_add rfl rfl rfl ya) ?_
  refine D_oneV (i := 8) rfl yk rfl rfl yd xaay (OpX.v (ov_nilptr rfl rfl)) ?_
  refine D_oneV (i := 9) rfl yk rfl rfl yd xaay (OpX.v (ov_fieldAddr rfl rfl fa73_0 rfl)) ?_
  refine D_oneV (i := 10) rfl yk rfl rfl yd xaay (OpX.v (ov_fieldAddr rfl rfl fa31_7 rfl)) ?_
  refine D_oneV (i := 11) rfl yk rfl rfl yd xaay (OpX.v (ov_indexAddr rfl rfl rfl Tryz.underlying29 rfl Tryz.sizeOf5 ya ya)) ?_
  refine D_one (i := 12) rfl yk rfl trivial (ol_st0 rfl rfl rfl ⟨⟨⟨trivial, yn⟩, yn⟩, (tn ya ya)⟩ rfl yf tok5 ⟨xaay, ?_⟩)
  refine D_end yk ?_
  refine ⟨trivial, _, .box bm 73 moverT (turnQ q, was, m, tk, ()) :: M, (ResV_none rfl), ?_, rfl⟩
  first | (rw [show turnQ q = _ from if_pos hc1]; exact yb) | (rw [show turnQ q = _ from if_neg (Bool.eq_false_iff.1 hc1)]; exact yb)
 ·
  refine W_skip ⟨trivial, _, .box bm 73 moverT (turnQ q, was, m, tk, ()) :: M, (ResV_none rfl), ?_, rfl⟩
  first | (rw [show turnQ q = _ from if_pos hc1]; exact yb) | (rw [show turnQ q = _ from if_neg (Bool.eq_false_iff.1 hc1)]; exact yb)

theorem c_after_mover_pass (q was : Pos) (m : Mv) (tk : Int) (bm : Nat) (M : List Fact) (hq : POK q) (hw : POK was) (hm : MOK m) (ht : tu q ≤ 1) (hF : 0 ≤ mF m ∧ mF m < 64) (hT : 0 ≤ mT m ∧ mT m < 64) (htk : -1 ≤ tk ∧ tk < 64) : Con Tryz.prog 52 [ptrv bm moverT []] (.box bm 73 moverT (q, was, m, tk, ()) :: M) (fun v M' => M' = .box bm 73 moverT (passQ q was m, was, m, tk, ()) :: M) := by
 have hb := hq.board
 have hpw := hq.wf
 have htu := hq.tu
 have hbw := hw.board
 have hww := hw.wf
 have hvq := hq.vr
 have htu0 := hq.tu
 simp only [tu] at htu0
 have ht2 := ht
 simp only [tu] at ht2
 have hmd := hm.d
 have hmp := hm.p
 have hmd0 := hm.d
 simp only [mD] at hmd0
 have hmp0 := hm.p
 simp only [mP] at hmp0
 have hF0 := hF
 simp only [mF] at hF0
 have hT0 := hT
 simp only [mT] at hT0
 have hFr : rng .i64 (mF m) := by simp only [rng]; omega
 have hTr : rng .i64 (mT m) := by simp only [rng]; omega
 have hmw := wf_move m
 have hmvw : wf moverT (q, was, m, tk, ()) := ⟨hpw, hww, hmw, trivial, trivial⟩
 have hq0 := POK_setPg hq (x := -1) yd yd
 have hq0w := hq0.wf
 have hs1 : @Eq Int ((setPg q (-1)).2.2.2.2.1) (q.2.2.2.2.1) := rfl
 refine con_of_W (n := 112) Tryz.func52 rfl rfl yn ?_
 refine w2 (fun w0 => ?_)
 refine zM ?_
 refine yL (ov_nilptr rfl rfl) ?_
 refine yL (ov_fieldAddr rfl rfl fa73_0 rfl) ?_
 refine yL (ov_fieldAddr rfl rfl fa31_6 rfl) ?_
 refine LO_l rfl trivial (ol_st0 rfl rfl rfl ⟨⟨trivial, yn⟩, yn⟩ rfl yf tok26 ?_)
 refine LO_nil (W_seq (W_seq ?_))
 show W Tryz.prog 112 _ _ _ (.box bm 73 moverT ((setPg q (-1)), was, m, tk, ()) :: M)
 refine W_regd mixed yk ?_
 refine yM ?_
 refine yP (yV rfl rfl rfl Tryz.call114 (c_after_mover_kind _ was m tk bm 73 _ hw hm hF ye)) ?_
 refine yR (ov_neq rfl rfl rfl) ?_
 refine yM ?_
 refine RO_g1 rfl rfl rfl rfl rfl yd (fun hg => by have hgx := hg; (try simp only [yS] at hgx); exact OpX.v (ov_move rfl rfl)) ?_
 refine RO_g1 rfl rfl rfl rfl rfl yd (fun hg => by have hgx := hg; (try simp only [yS] at hgx); exact OpX.v (ov_nilptr rfl (look_gv rfl (bq hg)))) ?_
 refine RO_g1 rfl rfl rfl rfl rfl yd (fun hg => by have hgx := hg; (try simp only [yS] at hgx); exact OpX.v (ov_fieldAddr rfl (look_gv rfl (bq hg)) fa73_2 rfl)) ?_
 refine RO_g1 rfl rfl rfl rfl rfl yd (fun hg => by have hgx := hg; (try simp only [yS] at hgx); exact OpX.v (ov_fieldAddr rfl (look_gv rfl (bq hg)) fa55_3 rfl)) ?_
 refine RO_g1 rfl rfl rfl rfl rfl yd (fun hg => by have hgx := hg; (try simp only [yS] at hgx); exact OpX.v (ov_load rfl (look_gv rfl (bq hg)) ye ⟨⟨trivial, yn⟩, yn⟩ rfl rfl tok5)) ?_
 refine RO_g1 rfl rfl rfl rfl rfl yd (fun hg => by have hgx := hg; (try simp only [yS] at hgx); exact OpX.v (ov_neq rfl (look_gv rfl (bq hg)) rfl)) ?_
 refine yR (ov_or rfl rfl rfl rfl (fun h => bq h)) ?_
 refine yM ?_
 refine RO_g1 rfl rfl rfl rfl rfl yd (fun hg => by have hgx := hg; (try simp only [yS] at hgx); exact OpX.v (ov_move rfl rfl)) ?_
 refine RO_g1 rfl rfl rfl rfl rfl yd (fun hg => by have hgx := hg; (try simp only [yS] at hgx); exact OpX.v (ov_nilptr rfl (look_gv rfl (bq hg)))) ?_
 refine RO_g1 rfl rfl rfl rfl rfl yd (fun hg => by have hgx := hg; (try simp only [yS] at hgx); exact OpX.v (ov_fieldAddr rfl (look_gv rfl (bq hg)) fa73_2 rfl)) ?_
 refine RO_g1 rfl rfl rfl rfl rfl yd (fun hg => by have hgx := hg; (try simp only [yS] at hgx); exact OpX.v (ov_fieldAddr rfl (look_gv rfl (bq hg)) fa55_1 rfl)) ?_
 refine RO_g1 rfl rfl rfl rfl rfl yd (fun hg => by have hgx := hg; (try simp only [yS] at hgx); exact OpX.v (ov_load rfl (look_gv rfl (bq hg)) ye ⟨⟨trivial, yn⟩, yn⟩ rfl rfl tok26)) ?_
 refine RO_g1 rfl rfl rfl rfl rfl yd (fun hg => by have hgx := hg; (try simp only [yS] at hgx); exact OpX.v (ov_move rfl rfl)) ?_
 refine RO_g1 rfl rfl rfl rfl rfl yd (fun hg => by have hgx := hg; (try simp only [yS] at hgx); exact OpX.v (ov_nilptr rfl (look_gv rfl (bq hg)))) ?_
 refine RO_g1 rfl rfl rfl rfl rfl yd (fun hg => by have hgx := hg; (try simp only [yS] at hgx); exact OpX.v (ov_fieldAddr rfl (look_gv rfl (bq hg)) fa73_2 rfl)) ?_
 refine RO_g1 rfl rfl rfl rfl rfl yd (fun hg => by have hgx := hg; (try simp only [yS] at hgx); exact OpX.v (ov_fieldAddr rfl (look_gv rfl (bq hg)) fa55_0 rfl)) ?_
 refine RO_g1 rfl rfl rfl rfl rfl yd (fun hg => by have hgx := hg; (try simp only [yS] at hgx); exact OpX.v (ov_load rfl (look_gv rfl (bq hg)) ye ⟨⟨trivial, yn⟩, yn⟩ rfl rfl tok26)) ?_
 refine RO_g1 rfl rfl rfl rfl rfl yd (fun hg => by have hgx := hg; (try simp only [yS] at hgx); exact OpX.v (ov_sub rfl (look_gv rfl (bq hg)) (look_gv rfl (bq hg)) ya)) ?_
 refine RO_g1 rfl rfl rfl rfl rfl yd (fun hg => by have hgx := hg; (try simp only [yS] at hgx); exact OpX.v (ov_neq rfl (look_gv rfl (bq hg)) rfl)) ?_
 refine RO_g1 rfl rfl rfl rfl rfl yd (fun hg => by have hgx := hg; (try simp only [yS] at hgx); exact OpX.v (ov_move rfl (look_gv rfl (bq hg)))) ?_
 refine RO_g rfl rfl rfl rfl rfl yd (fun hg1 hg2 => by have hgx := hg2; (try simp only [yS] at hgx); exact OpX.v (ov_move rfl rfl)) ?_
 refine RO_g rfl rfl rfl rfl rfl yd (fun hg1 hg2 => by have hgx := hg2; (try simp only [yS] at hgx); exact OpX.v (ov_nilptr rfl (look_gv rfl (bq2 hg1 hg2)))) ?_
 refine RO_g rfl rfl rfl rfl rfl yd (fun hg1 hg2 => by have hgx := hg2; (try simp only [yS] at hgx); exact OpX.v (ov_fieldAddr rfl (look_gv rfl (bq2 hg1 hg2)) fa73_2 rfl)) ?_
 refine RO_g rfl rfl rfl rfl rfl yd (fun hg1 hg2 => by have hgx := hg2; (try simp only [yS] at hgx); exact OpX.v (ov_fieldAddr rfl (look_gv rfl (bq2 hg1 hg2)) fa55_0 rfl)) ?_
 refine RO_g rfl rfl rfl rfl rfl yd (fun hg1 hg2 => by have hgx := hg2; (try simp only [yS] at hgx); exact OpX.v (ov_load rfl (look_gv rfl (bq2 hg1 hg2)) ye ⟨⟨trivial, yn⟩, yn⟩ rfl rfl tok26)) ?_
 refine RO_g rfl rfl rfl rfl rfl yd (fun hg1 hg2 => by have hgx := hg2; (try simp only [yS] at hgx); exact OpX.v (ov_move rfl rfl)) ?_
 refine RO_g rfl rfl rfl rfl rfl yd (fun hg1 hg2 => by have hgx := hg2; (try simp only [yS] at hgx); exact OpX.v (ov_nilptr rfl (look_gv rfl (bq2 hg1 hg2)))) ?_
 refine RO_g rfl rfl rfl rfl rfl yd (fun hg1 hg2 => by have hgx := hg2; (try simp only [yS] at hgx); exact OpX.v (ov_fieldAddr rfl (look_gv rfl (bq2 hg1 hg2)) fa73_2 rfl)) ?_
 refine RO_g rfl rfl rfl rfl rfl yd (fun hg1 hg2 => by have hgx := hg2; (try simp only [yS] at hgx); exact OpX.v (ov_fieldAddr rfl (look_gv rfl (bq2 hg1 hg2)) fa55_1 rfl)) ?_
 refine RO_g rfl rfl rfl rfl rfl yd (fun hg1 hg2 => by have hgx := hg2; (try simp only [yS] at hgx); exact OpX.v (ov_load rfl (look_gv rfl (bq2 hg1 hg2)) ye ⟨⟨trivial, yn⟩, yn⟩ rfl rfl tok26)) ?_
 refine RO_g rfl rfl rfl rfl rfl yd (fun hg1 hg2 => by have hgx := hg2; (try simp only [yS] at hgx); exact OpX.v (ov_sub rfl (look_gv rfl (bq2 hg1 hg2)) (look_gv rfl (bq2 hg1 hg2)) ya)) ?_
 refine RO_g rfl rfl rfl rfl rfl yd (fun hg1 hg2 => by have hgx := hg2; (try simp only [yS] at hgx); exact OpX.v (ov_neq rfl (look_gv rfl (bq2 hg1 hg2)) rfl)) ?_
 refine RO_g1 rfl rfl rfl rfl rfl yd (fun hg => by have hgx := hg; (try simp only [yS] at hgx); exact OpX.v (ov_and rfl (look_gv rfl (bq hg)) rfl rfl (fun h => bq2 (bq hg) h))) ?_
 refine yR (ov_or rfl rfl rfl rfl (fun h => bq h)) ?_
 refine RO_nil (W_cond rfl (fun hc1 => ?_) (fun hc1 => ?_))
 ·
  refine W_ret ⟨trivial, _, .box bm 73 moverT (passQ q was m, was, m, tk, ()) :: M, (ResV_none rfl), ?_, rfl⟩
  exact xbgy
 ·
  refine W_skip (W_seq (w1 ((yM ?_))))
  refine yR (ov_nilptr rfl rfl) ?_
  refine yR (ov_fieldAddr rfl rfl fa73_0 rfl) ?_
  refine yR (ov_fieldAddr rfl rfl fa31_4 rfl) ?_
  refine yR (ov_load rfl rfl ye ⟨⟨trivial, yn⟩, yn⟩ rfl rfl tok5) ?_
  refine yR (ov_convn rfl rfl Tryz.underlying5 Tryz.underlying26 ya) ?_
  refine yR (ov_mul rfl rfl rfl ya) ?_
  refine yA_ ?_
  refine RO_nil (w1 ((yM ?_)))
  refine yR (ov_nilptr rfl rfl) ?_
  refine yR (ov_fieldAddr rfl rfl fa73_2 rfl) ?_
  refine yR (ov_fieldAddr rfl rfl fa55_0 rfl) ?_
  refine yR (ov_load rfl rfl ye ⟨⟨trivial, yn⟩, yn⟩ rfl rfl tok26) ?_
  refine yR (ov_quo_pos rfl rfl rfl ya ya ya) ?_
  refine yM ?_
  refine yR (ov_add rfl rfl rfl ya) ?_
  refine yR (ov_neq rfl rfl rfl) ?_
  refine yM ?_
  refine gM ?_
  refine yG (fun hg => OpX.v (ov_nilptr rfl (look_gv rfl (bq hg)))) ?_
  refine yG (fun hg => OpX.v (ov_fieldAddr rfl (look_gv rfl (bq hg)) fa73_2 rfl)) ?_
  refine yG (fun hg => OpX.v (ov_fieldAddr rfl (look_gv rfl (bq hg)) fa55_0 rfl)) ?_
  refine yG (fun hg => OpX.v (ov_load rfl (look_gv rfl (bq hg)) ye ⟨⟨trivial, yn⟩, yn⟩ rfl rfl tok26)) ?_
  refine yG (fun hg => OpX.v (ov_quo_pos rfl (look_gv rfl (bq hg)) rfl ya ya ya)) ?_
  refine gM ?_
  refine yG (fun hg => OpX.v (ov_sub rfl (look_gv rfl (bq hg)) rfl ya)) ?_
  refine yG (fun hg => OpX.v (ov_neq rfl (look_gv rfl (bq hg)) (look_gv rfl (bq hg)))) ?_
  refine yR (ov_and rfl rfl rfl rfl (fun h => bq h)) ?_
  refine RO_nil (W_cond rfl (fun hc2 => ?_) (fun hc2 => ?_))
  ·
   refine W_ret ⟨trivial, _, .box bm 73 moverT (passQ q was m, was, m, tk, ()) :: M, (ResV_none rfl), ?_, rfl⟩
   exact xbgy
  ·
   refine W_skip (W_seq (W_regd mixed yk ?_))
   refine yM ?_
   refine yR (ov_nilptr rfl rfl) ?_
   refine yR (ov_fieldAddr rfl rfl fa73_2 rfl) ?_
   refine yR (ov_fieldAddr rfl rfl fa55_0 rfl) ?_
   refine yR (ov_load rfl rfl ye ⟨⟨trivial, yn⟩, yn⟩ rfl rfl tok26) ?_
   refine yM ?_
   refine yR (ov_nilptr rfl rfl) ?_
   refine yR (ov_fieldAddr rfl rfl fa73_2 rfl) ?_
   refine yR (ov_fieldAddr rfl rfl fa55_1 rfl) ?_
   refine yR (ov_load rfl rfl ye ⟨⟨trivial, yn⟩, yn⟩ rfl rfl tok26) ?_
   refine yR (ov_add rfl rfl rfl ya) ?_
   refine yR (ov_quo_pos rfl rfl rfl ya ya ya) ?_
   refine yA_ ?_
   refine RO_nil (W_seq (W_regd mixed yk ?_))
   refine yM ?_
   refine yR (ov_nilptr rfl rfl) ?_
   refine yR (ov_fieldAddr rfl rfl fa73_0 rfl) ?_
   refine yR (ov_fieldAddr rfl rfl fa31_4 rfl) ?_
   refine yR (ov_load rfl rfl ye ⟨⟨trivial, yn⟩, yn⟩ rfl rfl tok5) ?_
   refine yM ?_
   refine yR (ov_convn rfl rfl Tryz.underlying26 Tryz.underlying3 ya) ?_
   refine yP (yV rfl rfl rfl Tryz.call116 (c_rays_Pawn (tu q) ((mF m + mT m) / 2) _)) ?_
   refine yM ?_
   refine yR (ov_nilptr rfl rfl) ?_
   refine yR (ov_fieldAddr rfl rfl fa73_0 rfl) ?_
   refine yR (ov_load rfl rfl ye ⟨trivial, yn⟩ rfl rfl tok31) ?_
   refine yM ?_
   refine yR (ov_nilptr rfl rfl) ?_
   refine yR (ov_fieldAddr rfl rfl fa73_0 rfl) ?_
   refine yR (ov_fieldAddr rfl rfl fa31_4 rfl) ?_
   refine yR (ov_load rfl rfl ye ⟨⟨trivial, yn⟩, yn⟩ rfl rfl tok5) ?_
   refine yR (ov_sub rfl rfl rfl ya) ?_
   refine yP (yV rfl rfl rfl Tryz.call117 (c_board_Of (setPg q (-1)) hq0 (1 - tu q) 1 _)) ?_
   refine yR (ov_bits rfl rfl rfl (.inl ⟨rfl, rfl⟩)) ?_
   refine yR (ov_neq64 (b := 0#64) rfl rfl rfl) ?_
   refine RO_nil (W_cond rfl (fun hc3 => ?_) (fun hc3 => ?_))
   ·
    refine W_regl (fun w0 => ?_)
    refine zM ?_
    refine zM ?_
    refine yL (ov_nilptr rfl rfl) ?_
    refine yL (ov_fieldAddr rfl rfl fa73_0 rfl) ?_
    refine yL (ov_fieldAddr rfl rfl fa31_6 rfl) ?_
    refine LO_l rfl trivial (ol_st0 rfl rfl rfl ⟨⟨trivial, yn⟩, yn⟩ rfl yf tok26 ?_)
    refine LO_nil ⟨trivial, _, .box bm 73 moverT (passQ q was m, was, m, tk, ()) :: M, (ResV_none rfl), ?_, rfl⟩
    exact xbgy
   ·
    refine W_skip ⟨trivial, _, .box bm 73 moverT (passQ q was m, was, m, tk, ()) :: M, (ResV_none rfl), ?_, rfl⟩
    exact xbgy
end Go.Kw
set_option linter.unusedVariables false
namespace Go.Kw
open Go.Proofs
theorem tok27 : TyOK Tryz.prog 27 (.ar 2 i8) := ⟨Tryz.isAgg27, Tryz.sizeOf27, Tryz.zeroValue27⟩
theorem bl27 : BuildOKa Tryz.prog 27 2 i8 := ⟨_, _, _, rfl, rfl, Tryz.underlying27, rfl, rfl⟩

def rkRow (p : Pos) (c : Int) : List (El i8) := (rk p).getD c.toNat (zero (.ar 2 i8))
def setRkR (p : Pos) (c : Int) (row : List (El i8)) : Pos := (p.1, p.2.1, p.2.2.1, p.2.2.2.1, p.2.2.2.2.1, (show List (List Int) from p.2.2.2.2.2.1).set c.toNat row, p.2.2.2.2.2.2)
def setRk (p : Pos) (c j x : Int) : Pos := setRkR p c ((show List Int from rkRow p c).set j.toNat x)
theorem rkRow_wf {p : Pos} (hp : POK p) (c : Int) : wf (.ar 2 i8) (rkRow p c) := by
  have hw := hp.wf.2.2.2.2.2.1
  have key : ∀ l : List (List Int), (∀ q ∈ l, q.length = 2) → (l.getD c.toNat (List.replicate 2 0)).length = 2 := fun l h => by
    rw [List.getD_eq_getElem?_getD]
    cases hx : l[c.toNat]? with
    | none => rfl
    | some y => exact h y (List.mem_of_getElem? hx)
  exact ⟨key _ fun q hq => (hw.2 q hq).1, fun _ _ => trivial⟩
theorem POK_setRkR {p : Pos} (hp : POK p) (c : Int) {row : List (El i8)} (hl : row.length = 2) (hr : ∀ k, -128 ≤ (show List Int from row).getD k 0 ∧ (show List Int from row).getD k 0 ≤ 127) : POK (setRkR p c row) := by
  have hw := hp.wf.2.2.2.2.2.1
  have key : ∀ (l : List (List Int)) (r : List Int), l.length = 2 → (∀ q ∈ l, q.length = 2) → r.length = 2 → (l.set c.toNat r).length = 2 ∧ ∀ q ∈ l.set c.toNat r, q.length = 2 := fun l r h1 h2 h3 => by
    refine ⟨by rw [List.length_set]; exact h1, fun q hq => ?_⟩
    rcases List.mem_or_eq_of_mem_set hq with h | h
    · exact h2 q h
    · rw [h]; exact h3
  have key2 : ∀ (l : List (List Int)) (r : List Int) (a k : Nat), (∀ a k, -128 ≤ (l.getD a []).getD k 0 ∧ (l.getD a []).getD k 0 ≤ 127) → (∀ k, -128 ≤ r.getD k 0 ∧ r.getD k 0 ≤ 127) → -128 ≤ ((l.set c.toNat r).getD a []).getD k 0 ∧ ((l.set c.toNat r).getD a []).getD k 0 ≤ 127 := fun l r a k h1 h2 => by
    rw [List.getD_eq_getElem?_getD (l := l.set c.toNat r), List.getElem?_set]
    split
    · split
      · exact h2 k
      · simp
    · rw [← List.getD_eq_getElem?_getD]; exact h1 a k
  obtain ⟨k1, k2⟩ := key (show List (List Int) from p.2.2.2.2.2.1) row hw.1 (fun q hq => (hw.2 q hq).1) hl
  exact ⟨⟨trivial, hp.wf.2.1, trivial, hp.wf.2.2.2.1, trivial, ⟨k1, fun q hq => ⟨k2 q hq, fun _ _ => trivial⟩⟩, hp.wf.2.2.2.2.2.2⟩, hp.board, hp.vr, hp.tu, hp.pg, hp.hf, hp.fl, hp.pk, fun a k => key2 _ _ a k hp.rk hr, hp.ck⟩
theorem POK_setRk {p : Pos} (hp : POK p) (c j : Int) {x : Int} (h0 : -128 ≤ x) (h1 : x ≤ 127) : POK (setRk p c j x) := by
  refine POK_setRkR hp c ?_ fun k => ?_
  · show (List.set (show List Int from rkRow p c) j.toNat x).length = 2
    rw [List.length_set]; exact (rkRow_wf hp c).1
  · show -128 ≤ (List.set (show List Int from rkRow p c) j.toNat x).getD k 0 ∧ (List.set (show List Int from rkRow p c) j.toNat x).getD k 0 ≤ 127
    rw [List.getD_eq_getElem?_getD, List.getElem?_set]
    split
    · split
      · exact ⟨h0, h1⟩
      · simp
    · rw [← List.getD_eq_getElem?_getD]; exact getD2 (n := 2) hp.rk yd yd c.toNat k
def rt1 (q was : Pos) (m : Mv) : Pos := if (decide (kindOf was m = 6) && decide (mD m = 0)) = true then setRkR q (tu q) ([-1, -1] : List Int) else q
theorem POK_rt1 {q : Pos} (hq : POK q) (was : Pos) (m : Mv) (ht : tu q ≤ 1) : POK (rt1 q was m) := by
  unfold rt1; split
  · refine POK_setRkR hq _ rfl fun k => ?_
    match k with
    | 0 => exact ⟨by decide, by decide⟩
    | 1 => exact ⟨by decide, by decide⟩
    | k + 2 => exact ⟨by show (-128 : Int) ≤ 0; decide, by show (0 : Int) ≤ 127; decide⟩
  · exact hq
def rtG (m : Mv) (tk : Int) (q : Pos) (c king f : Int) : Bool := (((decide (tk = 56 * c + f) || (decide (mD m = 0) && decide (mF m = 56 * c + f))) || decide (king < 0)) || !decide (king / 8 = 7 * c)) || !decide (pb q (56 * c + f) = makeP c 4)
def rtSide (m : Mv) (tk : Int) (c king : Int) (row : List (El i8)) (q : Pos) (j : Nat) : Pos :=
  if (decide ((show List Int from row).getD ((j : Nat) : Int).toNat 0 < 0) || decide (7 < (show List Int from row).getD ((j : Nat) : Int).toNat 0)) = true then q
  else if rtG m tk q c king ((show List Int from row).getD ((j : Nat) : Int).toNat 0) = true then setRk q c (j : Int) (-1) else q
def rtJ (m : Mv) (tk : Int) (q : Pos) (c : Int) : Nat → Pos
  | 0 => q
  | j + 1 => rtSide m tk c (firstB (ofB q c 6)) (rkRow q c) (rtJ m tk q c j) j
def rtC (m : Mv) (tk : Int) (q : Pos) : Nat → Pos
  | 0 => q
  | n + 1 => rtJ m tk (rtC m tk q n) (n : Int) 2
def rightsQ (q was : Pos) (m : Mv) (tk : Int) : Pos := rtC m tk (rt1 q was m) 2
theorem rtC_next (m : Mv) (tk : Int) (q : Pos) {i j : Nat} (h : j = 2) : rtC m tk q (i + 1) = rtJ m tk (rtC m tk q i) (i : Int) j := by subst h; rfl
theorem rtJ_a (m : Mv) (tk : Int) (q : Pos) (c : Int) {j : Nat} (h : (decide ((show List Int from rkRow q c).getD ((j : Nat) : Int).toNat 0 < 0) || decide (7 < (show List Int from rkRow q c).getD ((j : Nat) : Int).toNat 0)) = true) : rtJ m tk q c (j + 1) = rtJ m tk q c j := by
  rw [rtJ, rtSide, if_pos h]
theorem rtJ_b (m : Mv) (tk : Int) (q : Pos) (c : Int) {j : Nat} (h : (decide ((show List Int from rkRow q c).getD ((j : Nat) : Int).toNat 0 < 0) || decide (7 < (show List Int from rkRow q c).getD ((j : Nat) : Int).toNat 0)) = false)
    (h2 : rtG m tk (rtJ m tk q c j) c (firstB (ofB q c 6)) ((show List Int from rkRow q c).getD ((j : Nat) : Int).toNat 0) = true) : rtJ m tk q c (j + 1) = setRk (rtJ m tk q c j) c (j : Int) (-1) := by
  rw [rtJ, rtSide, if_neg xasy, if_pos h2]
theorem rtJ_c (m : Mv) (tk : Int) (q : Pos) (c : Int) {j : Nat} (h : (decide ((show List Int from rkRow q c).getD ((j : Nat) : Int).toNat 0 < 0) || decide (7 < (show List Int from rkRow q c).getD ((j : Nat) : Int).toNat 0)) = false)
    (h2 : rtG m tk (rtJ m tk q c j) c (firstB (ofB q c 6)) ((show List Int from rkRow q c).getD ((j : Nat) : Int).toNat 0) = false) : rtJ m tk q c (j + 1) = rtJ m tk q c j := by
  rw [rtJ, rtSide, if_neg xasy, if_neg (by rw [h2]; simp)]
theorem POK_rtJ {q : Pos} (hq : POK q) (m : Mv) (tk : Int) (c : Int) (h0 : 0 ≤ c) (h1 : c ≤ 1) : ∀ j, j ≤ 2 → POK (rtJ m tk q c j)
  | 0, _ => hq
  | j + 1, h => by
    have ih := POK_rtJ hq m tk c h0 h1 j yo
    rw [rtJ, rtSide]
    split
    · exact ih
    · split
      · exact POK_setRk ih c j yd yd
      · exact ih
theorem POK_rtC {q : Pos} (hq : POK q) (m : Mv) (tk : Int) : ∀ n, n ≤ 2 → POK (rtC m tk q n)
  | 0, _ => hq
  | n + 1, h => by
    have ih := POK_rtC hq m tk n yo
    exact POK_rtJ ih m tk n yo yo 2 yo

theorem c_after_mover_rights (q was : Pos) (m : Mv) (tk : Int) (bm : Nat) (M : List Fact) (hq : POK q) (hw : POK was) (hm : MOK m) (ht : tu q ≤ 1) (hF : 0 ≤ mF m ∧ mF m < 64) (hT : 0 ≤ mT m ∧ mT m < 64) (htk : -1 ≤ tk ∧ tk < 64) (hTB : TAB ∈ M) : Con Tryz.prog 51 [ptrv bm moverT []] (.box bm 73 moverT (q, was, m, tk, ()) :: M) (fun v M' => M' = .box bm 73 moverT (rightsQ q was m tk, was, m, tk, ()) :: M) := by
 have hb := hq.board
 have hpw := hq.wf
 have htu := hq.tu
 have hbw := hw.board
 have hww := hw.wf
 have hvq := hq.vr
 have htu0 := hq.tu
 simp only [tu] at htu0
 have ht2 := ht
 simp only [tu] at ht2
 have hmd := hm.d
 have hmp := hm.p
 have hmd0 := hm.d
 simp only [mD] at hmd0
 have hmp0 := hm.p
 simp only [mP] at hmp0
 have hF0 := hF
 simp only [mF] at hF0
 have hT0 := hT
 simp only [mT] at hT0
 have hFr : rng .i64 (mF m) := by simp only [rng]; omega
 have hTr : rng .i64 (mT m) := by simp only [rng]; omega
 have hmw := wf_move m
 have hmvw : wf moverT (q, was, m, tk, ()) := ⟨hpw, hww, hmw, trivial, trivial⟩
 have hr1 := POK_rt1 hq was m ht
 refine con_of_W (n := 121) Tryz.func51 rfl rfl yn ?_
 refine W_cut [(0, ptrv bm moverT [])] (.box bm 73 moverT ((rt1 q was m), was, m, tk, ()) :: M) ?_ ?_
 ·
  refine w1 ((yM ?_))
  refine yP (yV rfl rfl rfl Tryz.call114 (c_after_mover_kind _ was m tk bm 73 _ hw hm hF ye)) ?_
  refine yR (ov_eql rfl rfl rfl) ?_
  refine yM ?_
  refine gM ?_
  refine yG (fun hg => OpX.v (ov_nilptr rfl (look_gv rfl (bq hg)))) ?_
  refine yG (fun hg => OpX.v (ov_fieldAddr rfl (look_gv rfl (bq hg)) fa73_2 rfl)) ?_
  refine yG (fun hg => OpX.v (ov_fieldAddr rfl (look_gv rfl (bq hg)) fa55_3 rfl)) ?_
  refine yG (fun hg => OpX.v (ov_load rfl (look_gv rfl (bq hg)) ye ⟨⟨trivial, yn⟩, yn⟩ rfl rfl tok5)) ?_
  refine yG (fun hg => OpX.v (ov_eql rfl (look_gv rfl (bq hg)) rfl)) ?_
  refine yR (ov_and rfl rfl rfl rfl (fun h => bq h)) ?_
  refine RO_nil (W_cond rfl (fun hc1 => ?_) (fun hc1 => ?_))
  ·
   refine W_regD (fun i => !Nat.beq i 11) mixed (fun w0 => ?_)
   refine D_mem0 (i := 0) rfl yk yk rfl rfl yd (ov_move rfl rfl) ?_
   refine D_mem0 (i := 1) rfl yk yk rfl rfl yd (ov_move rfl rfl) ?_
   refine D_mem0 (i := 2) rfl yk yk rfl rfl yd (ov_nilptr rfl rfl) ?_
   refine D_mem0 (i := 3) rfl yk yk rfl rfl yd (ov_fieldAddr rfl rfl fa73_0 rfl) ?_
   refine D_mem0 (i := 4) rfl yk yk rfl rfl yd (ov_fieldAddr rfl rfl fa31_4 rfl) ?_
   refine D_mem0 (i := 5) rfl yk yk rfl rfl yd (ov_load rfl rfl ye ⟨⟨trivial, yn⟩, yn⟩ rfl rfl tok5) ?_
   refine D_mem0 (i := 6) rfl yk yk rfl rfl yd (ov_buildA (t := i8) (ds := [(0, _), (1, _)]) rfl rfl bl27 ⟨yn, yf, ⟨yn, yf, trivial⟩⟩ rfl) ?_
   refine D_oneV (i := 7) rfl yk rfl rfl yd xaay (OpX.v (ov_nilptr rfl rfl)) ?_
   refine D_oneV (i := 8) rfl yk rfl rfl yd xaay (OpX.v (ov_fieldAddr rfl rfl fa73_0 rfl)) ?_
   refine D_oneV (i := 9) rfl yk rfl rfl yd xaay (OpX.v (ov_fieldAddr rfl rfl fa31_5 rfl)) ?_
   refine D_oneV (i := 10) rfl yk rfl rfl yd xaay (OpX.v (ov_indexAddr rfl rfl rfl Tryz.underlying28 rfl Tryz.sizeOf27 ya ya)) ?_
   refine D_one (i := 11) rfl yk rfl trivial (ol_st0 rfl rfl rfl ⟨⟨⟨trivial, yn⟩, yn⟩, (tn ya ya)⟩ rfl yf tok27 ⟨xaay, ?_⟩)
   refine D_end yk ?_
   exact ⟨⟨rfl, trivial⟩, (by first | (rw [show rt1 q was m = _ from if_pos hc1]; exact yb) | (rw [show rt1 q was m = q from if_neg (Bool.eq_false_iff.1 hc1)]; exact yb))⟩
  ·
   refine W_skip ?_
   exact ⟨⟨rfl, trivial⟩, (by first | (rw [show rt1 q was m = _ from if_pos hc1]; exact yb) | (rw [show rt1 q was m = q from if_neg (Bool.eq_false_iff.1 hc1)]; exact yb))⟩
 ·
  refine w1 ((yA_ ?_))
  refine RO_nil (W_block (W_loop (σ := Nat) (fun s5 => s5 ≤ 2) (fun s5 => [(0, ptrv bm moverT []), (2, .int .u8 (s5 : Int))]) (fun s5 => .box bm 73 moverT (rtC m tk (rt1 q was m) s5, was, m, tk, ()) :: M) (fun s5 => 2 - s5) (0) (by simp) ⟨rfl, rfl, trivial⟩ yb ?_))
  rintro i hI
  refine W_seq (w1 ((yM ?_)))
  refine yR (ov_leq rfl rfl rfl) ?_
  refine RO_nil (W_cond rfl (fun hc2 => ?_) (fun hc2 => ?_))
  ·
   try simp only [yS] at hc2
   have hpi := POK_rtC hr1 m tk i yo
   have hkr := firstB_rng (ofB (rtC m tk (rt1 q was m) i) (i : Int) 6)
   have hrw := rkRow_wf hpi (i : Int)
   refine W_skip (W_seq (W_block (w1 ((yM ?_)))))
   refine yR (ov_nilptr rfl rfl) ?_
   refine yR (ov_fieldAddr rfl rfl fa73_0 rfl) ?_
   refine yR (ov_load rfl rfl ye ⟨trivial, yn⟩ rfl rfl tok31) ?_
   refine yM ?_
   refine yP (yV rfl rfl rfl Tryz.call115 (c_board_Find (rtC m tk (rt1 q was m) i) hpi (i : Int) 6 _ ye)) ?_
   refine yA_ ?_
   refine RO_nil (w1 ((yM ?_)))
   refine yM ?_
   refine yR (ov_nilptr rfl rfl) ?_
   refine yR (ov_fieldAddr rfl rfl fa73_0 rfl) ?_
   refine yR (ov_fieldAddr rfl rfl fa31_5 rfl) ?_
   refine yR (ov_indexAddr rfl rfl rfl Tryz.underlying28 rfl Tryz.sizeOf27 ya ya) ?_
   refine yR (ov_load rfl rfl ye ⟨⟨⟨trivial, yn⟩, yn⟩, (tn ya ya)⟩ rfl rfl tok27) ?_
   refine yM ?_
   refine RO_nil (W_block (W_loop (σ := Nat) (fun s6 => s6 ≤ 2) (fun s6 => [(0, ptrv bm moverT []), (2, .int .u8 (i : Int)), (3, .int .i64 (firstB (ofB (rtC m tk (rt1 q was m) i) (i : Int) 6))), (46, enc (.ar 2 i8) (rkRow (rtC m tk (rt1 q was m) i) (i : Int))), (47, .int .i64 (s6 : Int))]) (fun s6 => .box bm 73 moverT (rtJ m tk (rtC m tk (rt1 q was m) i) (i : Int) s6, was, m, tk, ()) :: M) (fun s6 => 2 - s6) (0) (by simp) ⟨rfl, rfl, rfl, rfl, rfl, trivial⟩ yb ?_))
   rintro j hJ
   refine w1 ((yR (ov_lss rfl rfl rfl) ?_))
   refine RO_nil (W_seq (W_cond rfl (fun hc3 => ?_) (fun hc3 => ?_)))
   ·
    try simp only [yS] at hc3
    have hpj := POK_rtJ hpi m tk (i : Int) yo yo j yo
    have hwj := hpj.wf
    have hbj := hpj.board
    have hfr : @LE.le Int _ (-128) ((rkRow (rtC m tk (rt1 q was m) i) (i : Int)).getD ((j : Nat) : Int).toNat (zero i8)) ∧ @LE.le Int _ ((rkRow (rtC m tk (rt1 q was m) i) (i : Int)).getD ((j : Nat) : Int).toNat (zero i8)) 127 := rkAt_rng hpi (i : Int) (j : Int)
    refine W_skip (W_seq (W_block (w1 ((yM ?_)))))
    refine yR (ov_index (t := (.ar 2 i8)) rfl rfl yf rfl rfl Tryz.underlying27 ya ya (tn ya ya) rfl rfl rfl tok26) ?_
    refine yA_ ?_
    refine yA_ ?_
    refine RO_nil (W_seq (w1 ((yM ?_))))
    refine yR (ov_lss rfl rfl rfl) ?_
    refine yM ?_
    refine gM ?_
    refine yG (fun hg => OpX.v (ov_gtr rfl (look_gv rfl (bq hg)) rfl)) ?_
    refine yR (ov_or rfl rfl rfl rfl (fun h => bq h)) ?_
    refine RO_nil (W_cond rfl (fun hc4 => ?_) (fun hc4 => ?_))
    ·
     refine W_exit (W_reg (yR (ov_add rfl rfl rfl ya) ?_))
     refine yM ?_
     refine RO_nil ?_
     exact ⟨j + 1, yo, yo, ⟨rfl, rfl, rfl, rfl, rfl, trivial⟩, xapy⟩
    ·
     have hf0 : @LE.le Int _ 0 ((rkRow (rtC m tk (rt1 q was m) i) (i : Int)).getD ((j : Nat) : Int).toNat (zero i8)) := Int.not_lt.1 (of_decide_eq_false (Bool.or_eq_false_iff.1 hc4).1)
     have hf7 : @LE.le Int _ ((rkRow (rtC m tk (rt1 q was m) i) (i : Int)).getD ((j : Nat) : Int).toNat (zero i8)) 7 := Int.not_lt.1 (of_decide_eq_false (Bool.or_eq_false_iff.1 hc4).2)
     refine W_skip (w1 ((yM ?_)))
     refine yR (ov_convn rfl rfl Tryz.underlying5 Tryz.underlying3 ya) ?_
     refine yR (ov_mul rfl rfl rfl ya) ?_
     refine yM ?_
     refine yR (ov_convn rfl rfl Tryz.underlying26 Tryz.underlying3 ya) ?_
     refine yR (ov_add rfl rfl rfl ya) ?_
     refine yA_ ?_
     refine RO_nil (w1 ((yM ?_)))
     refine yR (ov_nilptr rfl rfl) ?_
     refine yR (ov_fieldAddr rfl rfl fa73_3 rfl) ?_
     refine yR (ov_load rfl rfl ye ⟨trivial, yn⟩ rfl rfl tok3) ?_
     refine yM ?_
     refine yR (ov_eql rfl rfl rfl) ?_
     refine yM ?_
     refine gM ?_
     refine yG (fun hg => OpX.v (ov_nilptr rfl (look_gv rfl (bq hg)))) ?_
     refine yG (fun hg => OpX.v (ov_fieldAddr rfl (look_gv rfl (bq hg)) fa73_2 rfl)) ?_
     refine yG (fun hg => OpX.v (ov_fieldAddr rfl (look_gv rfl (bq hg)) fa55_3 rfl)) ?_
     refine yG (fun hg => OpX.v (ov_load rfl (look_gv rfl (bq hg)) ye ⟨⟨trivial, yn⟩, yn⟩ rfl rfl tok5)) ?_
     refine yG (fun hg => OpX.v (ov_eql rfl (look_gv rfl (bq hg)) rfl)) ?_
     refine yG (fun hg => OpX.v (ov_move rfl (look_gv rfl (bq hg)))) ?_
     refine RO_g rfl rfl rfl rfl rfl yd (fun hg1 hg2 => OpX.v (ov_move rfl rfl)) ?_
     refine RO_g rfl rfl rfl rfl rfl yd (fun hg1 hg2 => OpX.v (ov_nilptr rfl (look_gv rfl (bq2 hg1 hg2)))) ?_
     refine RO_g rfl rfl rfl rfl rfl yd (fun hg1 hg2 => OpX.v (ov_fieldAddr rfl (look_gv rfl (bq2 hg1 hg2)) fa73_2 rfl)) ?_
     refine RO_g rfl rfl rfl rfl rfl yd (fun hg1 hg2 => OpX.v (ov_fieldAddr rfl (look_gv rfl (bq2 hg1 hg2)) fa55_0 rfl)) ?_
     refine RO_g rfl rfl rfl rfl rfl yd (fun hg1 hg2 => OpX.v (ov_load rfl (look_gv rfl (bq2 hg1 hg2)) ye ⟨⟨trivial, yn⟩, yn⟩ rfl rfl tok26)) ?_
     refine RO_g rfl rfl rfl rfl rfl yd (fun hg1 hg2 => OpX.v (ov_convn rfl (look_gv rfl (bq2 hg1 hg2)) Tryz.underlying26 Tryz.underlying3 ya)) ?_
     refine RO_g rfl rfl rfl rfl rfl yd (fun hg1 hg2 => OpX.v (ov_move rfl rfl)) ?_
     refine RO_g rfl rfl rfl rfl rfl yd (fun hg1 hg2 => OpX.v (ov_eql rfl (look_gv rfl (bq2 hg1 hg2)) (look_gv rfl (bq2 hg1 hg2)))) ?_
     refine yG (fun hg => OpX.v (ov_and rfl (look_gv rfl (bq hg)) rfl rfl (fun h => bq2 (bq hg) h))) ?_
     refine yR (ov_or rfl rfl rfl rfl (fun h => bq h)) ?_
     refine yA_ ?_
     refine RO_nil (W_seq (W_regd mixed yk ?_))
     refine yM ?_
     refine yM ?_
     refine gM ?_
     refine yG (fun hg => OpX.v (ov_lss rfl (look_gv rfl (bq hg)) rfl)) ?_
     refine yR (ov_or rfl rfl rfl rfl (fun h => bq h)) ?_
     refine yM ?_
     refine gM ?_
     refine RO_g1 rfl rfl rfl rfl rfl yd (fun hg => by have hgx := hg; (try simp only [yS] at hgx); exact OpX.v (ov_quo_pos rfl (look_gv rfl (bq hg)) rfl ya ya ya)) ?_
     refine gM ?_
     refine yG (fun hg => OpX.v (ov_convn rfl (look_gv rfl (bq hg)) Tryz.underlying5 Tryz.underlying3 ya)) ?_
     refine yG (fun hg => OpX.v (ov_mul rfl rfl (look_gv rfl (bq hg)) ya)) ?_
     refine yG (fun hg => OpX.v (ov_neq rfl (look_gv rfl (bq hg)) (look_gv rfl (bq hg)))) ?_
     refine yR (ov_or rfl rfl rfl rfl (fun h => bq h)) ?_
     refine yM ?_
     refine gM ?_
     refine gM ?_
     refine yG (fun hg => OpX.v (ov_nilptr rfl (look_gv rfl (bq hg)))) ?_
     refine yG (fun hg => OpX.v (ov_fieldAddr rfl (look_gv rfl (bq hg)) fa73_0 rfl)) ?_
     refine yG (fun hg => OpX.v (ov_fieldAddr rfl (look_gv rfl (bq hg)) fa31_1 rfl)) ?_
     refine yG (fun hg => OpX.v (ov_indexAddr rfl (look_gv rfl (bq hg)) (look_gv rfl (bq hg)) Tryz.underlying22 rfl Tryz.sizeOf5 ya ya)) ?_
     refine yG (fun hg => OpX.v (ov_load rfl (look_gv rfl (bq hg)) ye ⟨⟨⟨trivial, yn⟩, yn⟩, (tn ya ya)⟩ rfl rfl tok5)) ?_
     refine gM ?_
     refine yG (fun hg => yV rfl rfl (looks_cons (look_gv rfl (bq hg)) (looks_cons rfl looks_nil)) Tryz.call109 (c_pieces_Make (i : Int) 4 _ yo yo yd yd)) ?_
     refine yG (fun hg => OpX.v (ov_neq rfl (look_gv rfl (bq hg)) (look_gv rfl (bq hg)))) ?_
     refine yR (ov_or rfl rfl rfl rfl (fun h => bq h)) ?_
     refine RO_nil (W_cond rfl (fun hc5 => ?_) (fun hc5 => ?_))
     ·
      refine W_regl (fun w0 => ?_)
      refine zM ?_
      refine zM ?_
      refine zM ?_
      refine yL (ov_nilptr rfl rfl) ?_
      refine yL (ov_fieldAddr rfl rfl fa73_0 rfl) ?_
      refine yL (ov_fieldAddr rfl rfl fa31_5 rfl) ?_
      refine yL (ov_indexAddr rfl rfl rfl Tryz.underlying28 rfl Tryz.sizeOf27 ya ya) ?_
      refine yL (ov_indexAddr rfl rfl rfl Tryz.underlying27 rfl Tryz.sizeOf26 ya ya) ?_
      refine LO_l rfl trivial (ol_st0 rfl rfl rfl ⟨⟨⟨⟨trivial, yn⟩, yn⟩, (tn ya ya)⟩, (tn ya ya)⟩ rfl yf tok26 ?_)
      refine LO_nil (W_reg (yR (ov_add rfl rfl rfl ya) ?_))
      refine yM ?_
      refine RO_nil ?_
      exact ⟨j + 1, yo, yo, ⟨rfl, rfl, rfl, rfl, rfl, trivial⟩, xapy⟩
     ·
      refine W_skip (W_reg (yR (ov_add rfl rfl rfl ya) ?_))
      refine yM ?_
      refine RO_nil ?_
      exact ⟨j + 1, yo, yo, ⟨rfl, rfl, rfl, rfl, rfl, trivial⟩, xapy⟩
   ·
    try simp only [yS] at hc3
    refine W_exit (W_reg (yM ?_))
    refine yR (ov_add rfl rfl rfl ya) ?_
    refine yA_ ?_
    refine RO_nil ?_
    exact ⟨i + 1, yo, yo, ⟨rfl, rfl, trivial⟩, (by rw [rtC_next m tk (rt1 q was m) (i := i) (j := j) yo]; exact yb)⟩
  ·
   try simp only [yS] at hc2
   refine W_exit ⟨trivial, _, .box bm 73 moverT (rightsQ q was m tk, was, m, tk, ()) :: M, (ResV_none rfl), ?_, rfl⟩
   rw [show rightsQ q was m tk = rtC m tk (rt1 q was m) i from by rw [show i = 2 by omega]; rfl]; exact yb
end Go.Kw
set_option linter.unusedVariables false
namespace Go.Kw
open Go.Proofs


def sizeTo (xss : List (List (El moveT))) : Nat → Nat
  | 0 => 0
  | n + 1 => sizeTo xss n + (xss.getD n []).length
theorem sizeTo_next (xss : List (List (El moveT))) (i : Nat) (h : i < 3) : sizeTo xss (i + 1) = sizeTo xss i + (xss.getD i []).length := rfl
theorem sizeTo_le (xss : List (List (El moveT))) (c : Nat) (h : ∀ i, (xss.getD i []).length ≤ c) : ∀ n, sizeTo xss n ≤ n * c
  | 0 => by simp [sizeTo]
  | n + 1 => by
    have h1 := sizeTo_le xss c h n
    have h2 := h n
    rw [sizeTo, Nat.add_mul]; omega
def flatTo (xss : List (List (El moveT))) (n : Nat) : List (El moveT) := (xss.take n).flatten
theorem flatTo_next (xss : List (List (El moveT))) (i : Nat) (h : i < xss.length) : flatTo xss (i + 1) = flatTo xss i ++ xss.getD i [] := by
  unfold flatTo
  rw [List.take_add_one, List.getElem?_eq_getElem h, List.flatten_append, List.getD_eq_getElem?_getD, List.getElem?_eq_getElem h]; simp
theorem flatTo_all (xss : List (List (El moveT))) {i : Nat} (h : xss.length ≤ i) : flatTo xss i = xss.flatten := by
  unfold flatTo; rw [List.take_of_length_le h]
theorem flatTo_len (xss : List (List (El moveT))) : ∀ n, (flatTo xss n).length = sizeTo xss n
  | 0 => by simp [flatTo, sizeTo]
  | n + 1 => by
    have ih := flatTo_len xss n
    by_cases h : n < xss.length
    · rw [flatTo_next xss n h, List.length_append, ih, sizeTo]
    · have e : (xss.getD n []) = [] := by rw [List.getD_eq_getElem?_getD, List.getElem?_eq_none yo]; rfl
      rw [sizeTo, e, ← ih]
      unfold flatTo
      rw [List.take_of_length_le yo, List.take_of_length_le yo]; simp
theorem get_at (vs : List Value) (i : Nat) (h : i < vs.length) : vs[((i : Nat) : Int).toNat]? = some (vs.getD i undef) := by
  show vs[i]? = _
  rw [List.getD_eq_getElem?_getD, List.getElem?_eq_getElem h]; rfl

theorem c_slices_Grow (k : Nat) (M : List Fact) (hk : k ≤ 1000000) : Con Tryz.prog 157 [(.slice none 0 0), .int .i64 (k : Int)] M (fun v M' => M' = .row v 55 moveT [] :: M) := by
 refine con_of_W (n := 27) Tryz.func157 rfl rfl yn ?_
 refine w1 ((yA_ ?_))
 refine RO_nil (W_seq (w1 ((yM ?_))))
 refine yR (ov_lss rfl rfl rfl) ?_
 refine RO_nil (W_condf (congrArg (fun b => some (Value.bool b)) (decide_eq_false yo)) ?_)
 refine W_skip (W_seq (w1 ((yM ?_))))
 refine yM ?_
 refine yR (ov_cap (k := 0) rfl rfl Tryz.underlying48) ?_
 refine yM ?_
 refine yR (ov_lenv rfl rfl Tryz.underlying48) ?_
 refine yR (ov_sub rfl rfl rfl ya) ?_
 refine yR (ov_sub rfl rfl rfl ya) ?_
 refine yA_ ?_
 refine RO_nil (W_seq (W_row 55 moveT ?_))
 refine W_reg (yM ?_)
 refine yR (ov_gtr rfl rfl rfl) ?_
 refine RO_nil (W_cond rfl (fun hc2 => ?_) (fun hc2 => ?_))
 ·
  try simp only [yS] at hc2
  refine W_regl (fun w0 => ?_)
  refine zM ?_
  refine zM ?_
  refine yL (ov_cap (k := 0) rfl rfl Tryz.underlying48) ?_
  refine LO_l rfl (by decide : 20 < 27) (ol_cut (l1 := []) rfl rfl rfl rfl yd yd Tryz.underlying48 Tryz.sizeOf55 ?_)
  refine zM ?_
  refine LO_l rfl (by decide : 22 < 27) (ol_appz (t := moveT) (k := k) rfl rfl rfl Tryz.underlying48 Tryz.underlying3 rfl rfl rfl yd yo hk yn (fun v1 => ?_))
  refine zM ?_
  refine yL (ov_lenv rfl rfl Tryz.underlying48) ?_
  refine LO_l rfl (by decide : 25 < 27) (ol_cut (l1 := []) rfl rfl rfl rfl yd yo Tryz.underlying48 Tryz.sizeOf55 ?_)
  refine zA ?_
  refine LO_nil (w1 ((yM ?_)))
  refine yA_ ?_
  refine RO_nil (W_ret ⟨trivial, _, .row _ 55 moveT ([]) :: M, (ResV_tmp1 rfl rfl rfl), ?_, rfl⟩)
  first | exact List.Sublist.cons_cons _ (List.Sublist.refl _) | exact List.Sublist.cons_cons _ ((List.Sublist.refl _).cons _)
 ·
  try simp only [yS] at hc2
  refine W_skip (w1 ((yM ?_)))
  refine yA_ ?_
  refine RO_nil (W_ret ⟨trivial, _, .row _ 55 moveT ([]) :: M, (ResV_tmp1 rfl rfl rfl), ?_, rfl⟩)
  first | exact List.Sublist.cons_cons _ (List.Sublist.refl _) | exact List.Sublist.cons_cons _ ((List.Sublist.refl _).cons _)

theorem c_slices_Concat (vs : List Value) (xss : List (List (El moveT))) (bo : Nat) (M : List Fact) (hob : Fact.obj bo (.cells vs.toArray 48) ∈ M) (hvl : vs.length = 3) (hxl : xss.length = 3) (hl : ∀ i, i < 3 → HasList M (vs.getD i undef) moveT (xss.getD i [])) (hlen : ∀ i, (xss.getD i []).length ≤ 100000) : Con Tryz.prog 100 [.slice (some ⟨bo, 0, none⟩) 3 3] M (fun v M' => M' = .row v 55 moveT xss.flatten :: M) := by
 refine con_of_W (n := 36) Tryz.func100 rfl rfl yn ?_
 refine w1 ((yA_ ?_))
 refine RO_nil (w1 ((yA_ ?_)))
 refine RO_nil (W_seq (w1 ((yM ?_))))
 refine yR (ov_lenv rfl rfl Tryz.underlying156) ?_
 refine yM ?_
 refine RO_nil (W_block (W_loop (σ := Nat) (fun s5 => s5 ≤ 3) (fun s5 => [(0, .slice (some ⟨bo, 0, none⟩) 3 3), (3, .int .i64 (sizeTo xss s5 : Int)), (9, .slice (some ⟨bo, 0, none⟩) 3 3), (10, .int .i64 (3 : Nat)), (11, .int .i64 (s5 : Int))]) (fun s5 => M) (fun s5 => 3 - s5) (0) (by simp) ⟨rfl, rfl, rfl, rfl, rfl, trivial⟩ yb ?_))
 rintro i hI
 refine w1 ((yR (ov_lss rfl rfl rfl) ?_))
 refine RO_nil (W_seq (W_cond rfl (fun hc1 => ?_) (fun hc1 => ?_)))
 ·
  try simp only [yS] at hc1
  have hget : vs[((i : Nat) : Int).toNat]? = some (vs.getD i undef) := get_at vs i yo
  have hli := hl i yo
  have hll := hlen i
  have hsz := sizeTo_le xss 100000 hlen i
  have hsn := sizeTo_next xss i yo
  have h3 : i ≤ 2 := by omega
  refine W_skip (W_seq (W_block (w1 ((yR (ov_indexAddr_v (b := bo) rfl rfl rfl Tryz.underlying156 Tryz.sizeOf48 yo yo) ?_)))))
  refine yR (ov_load_v (u := (vs.getD i undef)) rfl rfl ye hget Tryz.isAgg48) ?_
  refine yA_ ?_
  refine RO_nil (w1 ((yM ?_)))
  refine yM ?_
  refine yR (ov_len (t := moveT) rfl rfl hli Tryz.underlying48) ?_
  refine yR (ov_add rfl rfl rfl ya) ?_
  refine yA_ ?_
  refine RO_nil (w1 ((yM ?_)))
  refine yR (ov_lss rfl rfl rfl) ?_
  refine RO_nil (W_condf (congrArg (fun b => some (Value.bool b)) (decide_eq_false yo)) ?_)
  refine W_skip (W_reg (yR (ov_add rfl rfl rfl ya) ?_))
  refine yM ?_
  refine RO_nil ?_
  exact ⟨i + 1, yo, yo, ⟨rfl, congrArg some (val_int yo), rfl, rfl, rfl, trivial⟩, yb⟩
 ·
  try simp only [yS] at hc1
  refine W_exit (W_seq ?_)
  obtain rfl : i = 3 := by omega
  refine W_regl (fun w0 => ?_)
  refine zM ?_
  refine LO_l rfl (by decide : 24 < 36) (ol_call (v0 := []) (v2 := []) rfl rfl rfl Tryz.call157 (Con.mono (c_slices_Grow (sizeTo xss 3) _ (by have := sizeTo_le xss 100000 hlen 3; omega)) ?_))
  rintro vg _ rfl
  refine zA ?_
  refine LO_nil (W_seq (w1 ((yM ?_))))
  refine yR (ov_lenv rfl rfl Tryz.underlying156) ?_
  refine yM ?_
  refine RO_nil (W_block (W_loop (σ := Nat × Value) (fun s => s.1 ≤ 3) (fun s => [(25, .slice (some ⟨bo, 0, none⟩) 3 3), (26, .int .i64 (3 : Nat)), (27, .int .i64 (s.1 : Int)), (6, s.2)]) (fun s => .row s.2 55 moveT (flatTo xss s.1) :: M) (fun s => 3 - s.1) ((0, vg)) (by simp) ⟨rfl, rfl, rfl, rfl, trivial⟩ yb ?_))
  rintro ⟨i, v⟩ hI
  simp only at hI
  refine w1 ((yR (ov_lss rfl rfl rfl) ?_))
  refine RO_nil (W_seq (W_cond rfl (fun hc3 => ?_) (fun hc3 => ?_)))
  ·
   try simp only [yS] at hc3
   have hget : vs[((i : Nat) : Int).toNat]? = some (vs.getD i undef) := get_at vs i yo
   have hli := hl i yo
   have hll := hlen i
   have hsz := sizeTo_le xss 100000 hlen i
   have hfl := flatTo_len xss i
   have h3 : i ≤ 2 := by omega
   refine W_skip (W_seq (W_block (w1 ((yR (ov_indexAddr_v (b := bo) rfl rfl rfl Tryz.underlying156 Tryz.sizeOf48 yo yo) ?_)))))
   refine yR (ov_load_v (u := (vs.getD i undef)) rfl rfl ye hget Tryz.isAgg48) ?_
   refine yA_ ?_
   refine RO_nil (W_regl (fun w0 => ?_))
   refine zM ?_
   refine zM ?_
   refine LO_l rfl (by decide : 33 < 36) (ol_ap0 (t := moveT) rfl rfl rfl (HasList.sub (List.sublist_cons_self _ _) hli) ap48 (by show ((flatTo xss i).length + _) * 5 ≤ _; omega) (by show (flatTo xss i).length + _ ≤ maxLen; exact Nat.le_trans (show _ ≤ 400000 by omega) yd) (fun v2 => ?_))
   refine zA ?_
   refine LO_nil (W_reg (yR (ov_add rfl rfl rfl ya) ?_))
   refine yM ?_
   refine RO_nil ?_
   exact ⟨(i + 1, _), xaly, xaly, ⟨rfl, rfl, rfl, rfl, trivial⟩, (by rw [flatTo_next xss i yo]; exact yb)⟩
  ·
   try simp only [yS] at hc3
   refine W_exit (w1 ((yM ?_)))
   refine yA_ ?_
   refine RO_nil (W_ret ⟨trivial, _, .row _ 55 moveT (xss.flatten) :: M, (ResV_tmp1 rfl rfl rfl), ?_, rfl⟩)
   rw [← flatTo_all xss (i := i) yo]; exact yb
end Go.Kw
set_option linter.unusedVariables false
namespace Go.Kw
open Go.Proofs


def allL (p : Pos) : List Mv := pseudoL p ++ (castleL p ++ dropL p)
theorem allL_flat (p : Pos) : ([pseudoL p, castleL p, dropL p] : List (List (El moveT))).flatten = allL p := by
  show List.append _ (List.append _ (List.append _ [])) = _
  simp only [List.append_eq, List.append_nil]; rfl
theorem castleL_len (p : Pos) : (castleL p).length ≤ 2 := by
  unfold castleL; split
  · exact Nat.zero_le _
  · split
    · exact Nat.zero_le _
    · exact outC_len p 2
theorem dropL_len (p : Pos) : (dropL p).length ≤ 320 := by
  unfold dropL; split
  · exact Nat.zero_le _
  · exact dropO_len p 5
theorem three {M : List Fact} {a b c : Value} {t : Ty} {x y z : List (El t)} (ha : HasList M a t x) (hb : HasList M b t y) (hc : HasList M c t z) : ∀ v ∈ [a, b, c], ∃ (t : Ty) (xs : List (El t)), HasList M v t xs := by
  intro v hv
  simp only [List.mem_cons, List.not_mem_nil, or_false] at hv
  rcases hv with rfl | rfl | rfl
  · exact ⟨t, x, ha⟩
  · exact ⟨t, y, hb⟩
  · exact ⟨t, z, hc⟩
theorem three_at {M : List Fact} {a b c : Value} {t : Ty} {x y z : List (El t)} (ha : HasList M a t x) (hb : HasList M b t y) (hc : HasList M c t z) : ∀ i, i < 3 → HasList M ([a, b, c].getD i undef) t ([x, y, z].getD i []) := by
  intro i hi
  match i with
  | 0 => exact ha
  | 1 => exact hb
  | 2 => exact hc
  | n + 3 => omega
theorem three_len {t : Ty} {x y z : List (El t)} {c : Nat} (ha : x.length ≤ c) (hb : y.length ≤ c) (hc : z.length ≤ c) : ∀ i, ([x, y, z].getD i []).length ≤ c := by
  intro i
  match i with
  | 0 => exact ha
  | 1 => exact hb
  | 2 => exact hc
  | n + 3 => exact Nat.zero_le _
/-! ### where moves lead, what they take -/
theorem pawn_geo : ∀ c : Fin 2, ∀ s : Fin 64, ∀ t : Fin 64, (pawnB (c.val : Int) (s.val : Int)).getLsbD t.val = true → (t.val : Int) / 8 = (s.val : Int) / 8 + (if c.val = 0 then 1 else -1) := by decide +kernel
theorem shlB_bit {x : Int} {t : Nat} (h0 : -1000 ≤ x) (h1 : x ≤ 1000) (h : (shlB x).getLsbD t = true) : (t : Int) = x := by
  unfold shlB at h
  rw [BitVec.getLsbD_shiftLeft, BitVec.getLsbD_one] at h
  simp only [Int.toNat_natCast, Bool.and_eq_true, Bool.not_eq_true', decide_eq_true_eq, decide_eq_false_iff_not] at h
  obtain ⟨⟨g1, g2⟩, g3⟩ := h
  have e : (BitVec.ofInt 64 x).toNat = (x % 18446744073709551616).toNat := by simp [BitVec.toNat_ofInt]
  rw [e] at g2 g3
  omega
theorem each_FT {p : Pos} {m x : Mv} (h : x ∈ eachL p m) : mF x = mF m ∧ mT x = mT m := by
  obtain ⟨k, _, _, rfl | rfl⟩ := each_mem h
  · exact ⟨rfl, rfl⟩
  · exact ⟨rfl, rfl⟩
theorem pawn_step {p : Pos} {own oth : BitVec 64} {s : Int} {t : Nat} (ht : 0 ≤ tu p ∧ tu p ≤ 1) (h0 : 0 ≤ s) (h1 : s < 64) (h : (pawnTo p own oth s).getLsbD t = true) : (pawnB (tu p) s).getLsbD t = true ∨ (t : Int) % 8 = s % 8 := by
  have ha := ahead_rng (tu p) s h0 h1
  have ha2 : aheadP (tu p) s % 8 = s % 8 := by unfold aheadP; split <;> omega
  have ha3 : aheadP (tu p) (aheadP (tu p) s) % 8 = s % 8 ∧ -1000 ≤ aheadP (tu p) (aheadP (tu p) s) ∧ aheadP (tu p) (aheadP (tu p) s) ≤ 1000 := by unfold aheadP; split <;> omega
  unfold pawnTo at h
  split at h
  · rw [BitVec.getLsbD_and, Bool.and_eq_true] at h; exact .inl h.1
  · split at h
    · rw [BitVec.getLsbD_and, Bool.and_eq_true] at h; exact .inl h.1
    · split at h
      · rw [BitVec.getLsbD_or, BitVec.getLsbD_or, BitVec.getLsbD_and, BitVec.getLsbD_and] at h
        simp only [Bool.or_eq_true, Bool.and_eq_true] at h
        rcases h with (h | h) | h
        · exact .inl h.1
        · right; rw [shlB_bit yo yo h]; exact ha2
        · right; rw [shlB_bit ha3.2.1 ha3.2.2 h.1]; exact ha3.1
      · rw [BitVec.getLsbD_or, BitVec.getLsbD_and] at h
        simp only [Bool.or_eq_true, Bool.and_eq_true] at h
        rcases h with h | h
        · exact .inl h.1
        · right; rw [shlB_bit yo yo h]; exact ha2
theorem pseudo_to {p : Pos} {m : Mv} (h : m ∈ pseudoL p) : (ofS p).2 = true ∧ ∃ s t : Nat, s < 64 ∧ t < 64 ∧ mF m = s ∧ mT m = t ∧ (ofB p (tu p) 0).getLsbD s = true ∧ (toP p (ofB p (tu p) 0) (ofB p (1 - tu p) 0) s).getLsbD t = true := by
  unfold pseudoL at h; split at h
  · rename_i hof
    obtain ⟨s, hs, h⟩ := List.mem_flatMap.1 h
    obtain ⟨t, ht, h⟩ := List.mem_flatMap.1 h
    obtain ⟨i, i1, i2, rfl⟩ := bitsOf_mem.1 hs
    obtain ⟨j, j1, j2, rfl⟩ := bitsOf_mem.1 ht
    obtain ⟨e1, e2⟩ := each_FT h
    exact ⟨hof, i, j, i1, j1, e1, e2, i2, j2⟩
  · cases h
theorem taken_rng {p : Pos} (hp : POK p) (m : Mv) : -1 ≤ takenP p m ∧ takenP p m < 64 := by
  unfold takenP
  split
  · exact ⟨by decide, by decide⟩
  · rename_i h1
    have hh : hasM m (pseudoL p) = true := by
      cases hx : hasM m (pseudoL p) with
      | true => rfl
      | false => rw [hx] at h1; simp at h1
    have hm := has_mem hh
    have hr := pseudoL_rng p m hm
    split
    · exact ⟨by omega, by omega⟩
    · split
      · rename_i h3
        obtain ⟨hof, s, t, s1, t1, e1, e2, _, hb⟩ := pseudo_to hm
        have ht1 := of_turn hof
        have ht0 := hp.tu.1
        obtain ⟨k1, k2⟩ := Bool.and_eq_true_iff.1 h3
        have k1' := of_decide_eq_true k1
        rw [e1] at k1'
        have k2' : ¬ mF m % 8 = mT m % 8 := by simpa using k2
        unfold toP at hb
        rw [if_pos k1', BitVec.getLsbD_and, Bool.and_eq_true] at hb
        rcases pawn_step ⟨ht0, ht1⟩ yo yo hb.1 with g | g
        · have htu : tu p = 0 ∨ tu p = 1 := by omega
          rcases htu with e | e
          · have := pawn_geo ⟨0, by decide⟩ ⟨s, s1⟩ ⟨t, t1⟩ (by rw [e] at g; exact g)
            simp at this
            rw [e, e2]; unfold aheadP; rw [if_pos yd]; omega
          · have := pawn_geo ⟨1, by decide⟩ ⟨s, s1⟩ ⟨t, t1⟩ (by rw [e] at g; exact g)
            simp at this
            rw [e, e2]; unfold aheadP; rw [if_neg yd]; omega
        · rw [e1, e2] at k2'; exact absurd g.symm k2'
      · exact ⟨by decide, by decide⟩
theorem castleL_rng {p : Pos} (hp : POK p) {m : Mv} (h : m ∈ castleL p) : tu p ≤ 1 ∧ (0 ≤ mF m ∧ mF m < 64) ∧ (0 ≤ mT m ∧ mT m < 64) ∧ mP m = 0 ∧ mD m = 0 ∧ mC m = true := by
  unfold castleL at h; split at h
  · cases h
  · rename_i h1
    have ht : tu p ≤ 1 := by
      simp only [Bool.or_eq_true, decide_eq_true_eq] at h1; omega
    split at h
    · cases h
    · rename_i h2
      have hk : 0 ≤ castK p := by
        simp only [Bool.or_eq_true, decide_eq_true_eq] at h2; omega
      have hk2 := (firstB_rng (ofB p (tu p) 6)).2
      have key : ∀ n, ∀ m ∈ outC p n, (0 ≤ mF m ∧ mF m < 64) ∧ (0 ≤ mT m ∧ mT m < 64) ∧ mP m = 0 ∧ mD m = 0 ∧ mC m = true := by
        intro n
        induction n with
        | zero => intro m hm; cases hm
        | succ n ih =>
          intro m hm
          rw [outC] at hm
          rcases List.mem_append.1 hm with hm | hm
          · exact ih m hm
          · split at hm
            · rename_i hy
              have e := List.mem_singleton.1 hm
              have hr : (rookP p (castK p) (sideL n)).2 = true := by
                cases hx : (rookP p (castK p) (sideL n)).2 with
                | true => rfl
                | false => unfold mayP at hy; rw [if_neg (by rw [hx]; simp)] at hy; cases hy
              have hrr := rookP_rng p _ _ hp ht hr
              unfold mayP at e
              rw [if_pos hr] at e
              rw [e]
              exact ⟨⟨hk, hk2⟩, hrr, rfl, rfl, rfl⟩
            · cases hm
      exact ⟨ht, key 2 m h⟩
theorem dropL_rng {p : Pos} {m : Mv} (h : m ∈ dropL p) : tu p ≤ 1 ∧ (0 ≤ mF m ∧ mF m < 64) ∧ mT m = mF m ∧ mP m = 0 ∧ (1 ≤ mD m ∧ mD m ≤ 5) ∧ mC m = false := by
  unfold dropL at h; split at h
  · cases h
  · rename_i h1
    have ht : tu p ≤ 1 := by
      simp only [Bool.or_eq_true, decide_eq_true_eq] at h1; omega
    have key : ∀ n, n ≤ 5 → ∀ m ∈ dropO p n, (0 ≤ mF m ∧ mF m < 64) ∧ mT m = mF m ∧ mP m = 0 ∧ (1 ≤ mD m ∧ mD m ≤ 5) ∧ mC m = false := by
      intro n
      induction n with
      | zero => intro _ m hm; cases hm
      | succ n ih =>
        intro hn m hm
        rw [dropO] at hm
        rcases List.mem_append.1 hm with hm | hm
        · exact ih yo m hm
        · unfold dropK at hm; split at hm
          · cases hm
          · obtain ⟨s, hs, rfl⟩ := List.mem_map.1 hm
            exact ⟨bits_in hs, rfl, rfl, ⟨by show 1 ≤ (n : Int) + 1; omega, by show (n : Int) + 1 ≤ 5; omega⟩, rfl⟩
    exact ⟨ht, key 5 yo m h⟩
theorem allL_rng {p : Pos} (hp : POK p) {m : Mv} (h : m ∈ allL p) : tu p ≤ 1 ∧ (0 ≤ mF m ∧ mF m < 64) ∧ (0 ≤ mT m ∧ mT m < 64) ∧ (0 ≤ mP m ∧ mP m ≤ 255) ∧ (0 ≤ mD m ∧ mD m ≤ 5) := by
  rcases List.mem_append.1 h with h | h
  · have h1 := pseudoL_rng p m h
    have h2 := of_turn (pseudo_to h).1
    exact ⟨h2, h1.1, h1.2.1, h1.2.2.1, by rw [h1.2.2.2.1]; exact ⟨by decide, by decide⟩⟩
  · rcases List.mem_append.1 h with h | h
    · have h1 := castleL_rng hp h
      exact ⟨h1.1, h1.2.1, h1.2.2.1, by rw [h1.2.2.2.1]; exact ⟨by decide, by decide⟩, by rw [h1.2.2.2.2.1]; exact ⟨by decide, by decide⟩⟩
    · have h1 := dropL_rng h
      exact ⟨h1.1, h1.2.1, by rw [h1.2.2.1]; exact h1.2.1, by rw [h1.2.2.2.1]; exact ⟨by decide, by decide⟩, by omega⟩

theorem c_after_All (p : Pos) (hp : POK p) (M : List Fact) (hT : TAB ∈ M) : Con Tryz.prog 46 [enc posT p] M (fun v M' => M' = .row v 55 moveT (allL p) :: M) := by
 obtain ⟨hb, hpw, hvr, htu, hpg, hvr0, htu0⟩ := hp.head
 have hl1 := pseudoL_len p
 have hl2 := castleL_len p
 have hl3 := dropL_len p
 refine con_of_W (n := 11) Tryz.func46 rfl rfl yn ?_
 refine w2 (fun w0 => ?_)
 refine LO_l rfl (by decide : 1 < 11) (ol_box (t := posT) rfl rfl rfl yf (fun b1 => ?_))
 refine zA ?_
 refine LO_nil (W_seq (W_regD (fun i => true) mixed (fun w0 => ?_)))
 refine D_mem0 (i := 0) rfl yk yk rfl rfl yd (ov_load rfl rfl ye trivial rfl rfl tok31) ?_
 refine D_mem0 (i := 2) rfl yk yk rfl rfl yd (ov_load rfl rfl ye trivial rfl rfl tok31) ?_
 refine D_mem0 (i := 4) rfl yk yk rfl rfl yd (ov_load rfl rfl ye trivial rfl rfl tok31) ?_
 refine D_one (i := 1) rfl yk rfl (by decide : 4 < 11) (ol_call (v0 := []) (v2 := []) rfl rfl rfl Tryz.call101 (Con.mono (by apply c_pseudo_List <;> exact yz) ?_))
 rintro vA _ rfl
 refine ⟨xaay, ?_⟩
 refine D_one (i := 3) rfl yk rfl (by decide : 6 < 11) (ol_call (v0 := []) (v2 := []) rfl rfl rfl Tryz.call102 (Con.mono (by apply c_castle_List <;> exact yz) ?_))
 rintro vB _ rfl
 refine ⟨xaay, ?_⟩
 refine D_one (i := 5) rfl yk rfl (by decide : 8 < 11) (ol_call (v0 := []) (v2 := []) rfl rfl rfl Tryz.call103 (Con.mono (by apply c_drop_List <;> exact yz) ?_))
 rintro vC _ rfl
 refine ⟨xaay, ?_⟩
 refine D_one (i := 6) rfl yk rfl (by decide : 9 < 11) (ol_bsl_v (vs := [vA, vB, vC]) rfl rfl rfl Tryz.underlying156 Tryz.sizeOf48 Tryz.zeroValue48 (three (hl_row (.tail _ (.tail _ (.head _)))) (hl_row (.tail _ (.head _))) (hl_row (.head _))) rfl yd yd (fun bo => ⟨xaay, ?_⟩))
 refine D_one (i := 7) rfl yk rfl (by decide : 10 < 11) (ol_call (v0 := []) (v2 := []) rfl rfl rfl Tryz.call100 (Con.mono (c_slices_Concat [vA, vB, vC] [pseudoL p, castleL p, dropL p] bo _ (.head _) rfl rfl (three_at (hl_row (.tail _ (.tail _ (.tail _ (.head _))))) (hl_row (.tail _ (.tail _ (.head _)))) (hl_row (.tail _ (.head _)))) (three_len yo yo yo)) ?_))
 rintro vD _ rfl
 refine ⟨xaay, ?_⟩
 refine D_oneV (i := 8) rfl yk rfl rfl yd xaay (OpX.v (ov_assign rfl rfl)) ?_
 refine D_end yk ?_
 refine W_ret ⟨trivial, _, .row _ 55 moveT (allL p) :: M, (ResV_tmp1 rfl rfl rfl), ?_, rfl⟩
 rw [← allL_flat]; exact yb
end Go.Kw
set_option linter.unusedVariables false
namespace Go.Kw
open Go.Proofs
theorem tok1 : TyOK Tryz.prog 1 .fn := ⟨Tryz.isAgg1, Tryz.sizeOf1, Tryz.zeroValue1⟩
abbrev fs72 : List Ty := [posT, posT, moveT, i64]
theorem bl73 : BuildOK Tryz.prog 73 fs72 := ⟨_, _, rfl, rfl, Tryz.underlying73, by kernel_rfl⟩
theorem bl74 : BuildOKa Tryz.prog 74 7 .fn := ⟨_, _, _, rfl, rfl, Tryz.underlying74, rfl, rfl⟩

theorem allL_len (p : Pos) : (allL p).length ≤ 1000000 := by
  have h1 := pseudoL_len p
  have h2 := castleL_len p
  have h3 := dropL_len p
  show (List.append _ (List.append _ _)).length ≤ _
  simp only [List.append_eq, List.length_append]; omega
def stepF (p : Pos) (m : Mv) (tk : Int) : Nat → Pos → Pos
  | 0, q => menQ q p m tk
  | 1, q => pocketQ q p m tk
  | 2, q => blowQ q m tk
  | 3, q => rightsQ q p m tk
  | 4, q => passQ q p m
  | 5, q => clocksQ q p m tk
  | _, q => turnQ q
def stepQ (p : Pos) (m : Mv) (tk : Int) : Nat → Pos
  | 0 => p
  | n + 1 => stepF p m tk n (stepQ p m tk n)
def madeP (p : Pos) (m : Mv) : Pos := stepQ p m (takenP p m) 7
def moveP (p : Pos) (m : Mv) : Pos × Bool := if (!hasM m (allL p)) = true then (p, false) else (madeP p m, true)

theorem move_no {p : Pos} {m : Mv} (h : (!hasM m (allL p)) = true) : Value.tuple #[enc posT p, .bool false] = .tuple #[enc posT (moveP p m).1, .bool (moveP p m).2] := by unfold moveP; rw [if_pos h]
theorem move_yes {p : Pos} {m : Mv} (h : (!hasM m (allL p)) = false) : Value.tuple #[enc posT (madeP p m), .bool true] = .tuple #[enc posT (moveP p m).1, .bool (moveP p m).2] := by unfold moveP; rw [if_neg xasy]
theorem makeP_rng' {c : Int} (kd : Int) (h : 0 ≤ c) : 0 ≤ makeP c kd ∧ makeP c kd ≤ 255 := by
  unfold makeP; split
  · exact ⟨by decide, by decide⟩
  · omega
theorem pb_rng {p : Pos} (hp : POK p) (s : Int) : 0 ≤ pb p s ∧ pb p s ≤ 255 := hp.board s.toNat
theorem POK_putP {p : Pos} (hp : POK p) (i : Int) {q : Pos} (hq : POK q) (j : Int) : POK (putB p i (pb q j)) := POK_put hp i (pb_rng hq j).1 (pb_rng hq j).2
theorem POK_setPm {p : Pos} (hp : POK p) (b : BitVec 64) : POK (setPm p b) :=
  ⟨⟨trivial, hp.wf.2.1, trivial, hp.wf.2.2.2⟩, hp.board, hp.vr, hp.tu, hp.pg, hp.hf, hp.fl, hp.pk, hp.rk, hp.ck⟩
theorem POK_setHf {p : Pos} (hp : POK p) {x : Int} (h : -9223372036854775808 ≤ x ∧ x ≤ 9223372036854775807) : POK (setHf p x) :=
  ⟨⟨trivial, hp.wf.2.1, trivial, hp.wf.2.2.2.1, trivial, hp.wf.2.2.2.2.2.1, trivial, hp.wf.2.2.2.2.2.2.2.1, trivial, hp.wf.2.2.2.2.2.2.2.2.2⟩, hp.board, hp.vr, hp.tu, hp.pg, h, hp.fl, hp.pk, hp.rk, hp.ck⟩
theorem POK_setFl {p : Pos} (hp : POK p) {x : Int} (h : -9223372036854775808 ≤ x ∧ x ≤ 9223372036854775807) : POK (setFl p x) :=
  ⟨⟨trivial, hp.wf.2.1, trivial, hp.wf.2.2.2.1, trivial, hp.wf.2.2.2.2.2.1, trivial, hp.wf.2.2.2.2.2.2.2.1, trivial, trivial, trivial⟩, hp.board, hp.vr, hp.tu, hp.pg, hp.hf, h, hp.pk, hp.rk, hp.ck⟩
theorem POK_setCk {p : Pos} (hp : POK p) (c : Int) {x : Int} (h0 : 0 ≤ x) (h1 : x ≤ 255) : POK (setCk p c x) := by
  have key : ∀ (l : List Int) (i k : Nat), (∀ k, 0 ≤ l.getD k 0 ∧ l.getD k 0 ≤ 255) → 0 ≤ (l.set i x).getD k 0 ∧ (l.set i x).getD k 0 ≤ 255 := fun l i k h => by
    rw [List.getD_eq_getElem?_getD, List.getElem?_set]
    split
    · split
      · exact ⟨h0, h1⟩
      · simp
    · rw [← List.getD_eq_getElem?_getD]; exact h k
  refine ⟨⟨trivial, hp.wf.2.1, trivial, hp.wf.2.2.2.1, trivial, hp.wf.2.2.2.2.2.1, trivial, ⟨?_, fun _ _ => trivial⟩, hp.wf.2.2.2.2.2.2.2.2⟩, hp.board, hp.vr, hp.tu, hp.pg, hp.hf, hp.fl, hp.pk, hp.rk, fun k => key _ _ k hp.ck⟩
  show (List.set (show List Int from p.2.2.2.2.2.2.2.1) c.toNat x).length = 2
  rw [List.length_set]; exact hp.wf.2.2.2.2.2.2.2.1.1
theorem POK_men {q was : Pos} (hq : POK q) (hw : POK was) (m : Mv) (tk : Int) : POK (menQ q was m tk) ∧ tu (menQ q was m tk) = tu q := by
  unfold menQ
  split
  · exact ⟨POK_putP (POK_putP (POK_put (POK_put hq _ yd yd) _ yd yd) _ hw _) _ hw _, rfl⟩
  · split
    · have h1 := POK_take hq (tu q) (mD m)
      have h2 := makeP_rng' (mD m) h1.tu.1
      exact ⟨POK_put h1 _ h2.1 h2.2, tu_take q (tu q) (mD m)⟩
    · have h1 : POK (men1 q tk) ∧ tu (men1 q tk) = tu q := by
        unfold men1; split
        · exact ⟨POK_put hq _ yd yd, rfl⟩
        · exact ⟨hq, rfl⟩
      have h2 : POK (men2 (men1 q tk) was m) ∧ tu (men2 (men1 q tk) was m) = tu q := ⟨POK_putP (POK_put h1.1 _ yd yd) _ hw _, h1.2⟩
      unfold men3; split
      · have h3 := makeP_rng' (mP m) h2.1.tu.1
        exact ⟨POK_put h2.1 _ h3.1 h3.2, h2.2⟩
      · exact h2
theorem tu_add (q : Pos) (c kd : Int) : tu (addP q c kd) = tu q := by unfold addP; split <;> rfl
theorem POK_pocket {q was : Pos} (hq : POK q) (m : Mv) (tk : Int) : POK (pocketQ q was m tk) ∧ tu (pocketQ q was m tk) = tu q := by
  unfold pocketQ
  split
  · exact ⟨hq, rfl⟩
  · split
    · split
      · exact ⟨POK_setPm (POK_setPm hq _) _, rfl⟩
      · exact ⟨hq, rfl⟩
    · have h1 : POK (pkt2 q was tk) ∧ tu (pkt2 q was tk) = tu q := by
        unfold pkt2; split
        · exact ⟨POK_setPm (POK_add hq _ _) _, tu_add q _ _⟩
        · exact ⟨hq, rfl⟩
      unfold pkt4 pkt3; split
      · exact ⟨POK_setPm (POK_setPm h1.1 _) _, h1.2⟩
      · exact ⟨POK_setPm h1.1 _, h1.2⟩
theorem POK_blow {q : Pos} (hq : POK q) (m : Mv) (tk : Int) : POK (blowQ q m tk) ∧ tu (blowQ q m tk) = tu q := by
  unfold blowQ
  split
  · exact ⟨hq, rfl⟩
  · have key : ∀ (l : List Int) (q : Pos), POK q → POK (l.foldl (fun q s => putB q s 0) q) ∧ tu (l.foldl (fun q s => putB q s 0) q) = tu q := by
      intro l
      induction l with
      | nil => exact fun q h => ⟨h, rfl⟩
      | cons s l ih => exact fun q h => ih _ (POK_put h s yd yd)
    exact key _ q hq
theorem tu_rtJ (m : Mv) (tk : Int) (q : Pos) (c : Int) : ∀ j, tu (rtJ m tk q c j) = tu q
  | 0 => rfl
  | j + 1 => by
    have ih := tu_rtJ m tk q c j
    rw [rtJ, rtSide]
    split
    · exact ih
    · split
      · exact ih
      · exact ih
theorem POK_rights {q was : Pos} (hq : POK q) (m : Mv) (tk : Int) (ht : tu q ≤ 1) : POK (rightsQ q was m tk) ∧ tu (rightsQ q was m tk) = tu q := by
  refine ⟨POK_rtC (POK_rt1 hq was m ht) m tk 2 (Nat.le_refl _), ?_⟩
  have h1 : tu (rt1 q was m) = tu q := by unfold rt1; split <;> rfl
  exact (tu_rtJ m tk _ _ 2).trans ((tu_rtJ m tk _ _ 2).trans h1)
theorem POK_pass {q was : Pos} (hq : POK q) {m : Mv} (hF : 0 ≤ mF m ∧ mF m < 64) (hT : 0 ≤ mT m ∧ mT m < 64) : POK (passQ q was m) ∧ tu (passQ q was m) = tu q := by
  have h0 := POK_setPg hq (x := -1) yd yd
  unfold passQ
  split
  · exact ⟨h0, rfl⟩
  · split
    · exact ⟨h0, rfl⟩
    · split
      · exact ⟨POK_setPg h0 yo yo, rfl⟩
      · exact ⟨h0, rfl⟩
theorem POK_clocks {q was : Pos} (hq : POK q) (m : Mv) (tk : Int) : POK (clocksQ q was m tk) ∧ tu (clocksQ q was m tk) = tu q := by
  have h1 : POK (clk2 q was m tk) := by
    unfold clk2; split
    · exact POK_setHf (POK_setHf hq (more_rng hq.hf)) ⟨by decide, by decide⟩
    · exact POK_setHf hq (more_rng hq.hf)
  have h2 := tu_clk2 q was m tk
  unfold clocksQ clk3; split
  · exact ⟨POK_setFl h1 (more_rng h1.fl), h2⟩
  · exact ⟨h1, h2⟩
theorem POK_turn {q : Pos} (hq : POK q) (ht : tu q ≤ 1) : POK (turnQ q) := by
  have h1 := POK_setTu hq (x := 1 - tu q) yo (by have := hq.tu; omega)
  have h2 := ckAt_rng hq (1 - (1 - tu q))
  unfold turnQ; split
  · rename_i h
    have := of_decide_eq_true (Bool.and_eq_true_iff.1 (Bool.and_eq_true_iff.1 h).1).2
    exact POK_setCk h1 _ yo yo
  · exact h1
theorem step_ok {p : Pos} (hp : POK p) {m : Mv} (hin : m ∈ allL p) (tk : Int) : ∀ n, n ≤ 6 → POK (stepQ p m tk n) ∧ tu (stepQ p m tk n) = tu p := by
  have hr := allL_rng hp hin
  have h0 : POK (stepQ p m tk 0) ∧ tu (stepQ p m tk 0) = tu p := ⟨hp, rfl⟩
  have h1 : POK (stepQ p m tk 1) ∧ tu (stepQ p m tk 1) = tu p := POK_men hp hp m tk
  have h2 : POK (stepQ p m tk 2) ∧ tu (stepQ p m tk 2) = tu p := by have := POK_pocket (was := p) h1.1 m tk; exact ⟨this.1, this.2.trans h1.2⟩
  have h3 : POK (stepQ p m tk 3) ∧ tu (stepQ p m tk 3) = tu p := by have := POK_blow h2.1 m tk; exact ⟨this.1, this.2.trans h2.2⟩
  have h4 : POK (stepQ p m tk 4) ∧ tu (stepQ p m tk 4) = tu p := by have := POK_rights (was := p) h3.1 m tk (by rw [h3.2]; exact hr.1); exact ⟨this.1, this.2.trans h3.2⟩
  have h5 : POK (stepQ p m tk 5) ∧ tu (stepQ p m tk 5) = tu p := by have := POK_pass (was := p) h4.1 hr.2.1 hr.2.2.1; exact ⟨this.1, this.2.trans h4.2⟩
  have h6 : POK (stepQ p m tk 6) ∧ tu (stepQ p m tk 6) = tu p := by have := POK_clocks (was := p) h5.1 m tk; exact ⟨this.1, this.2.trans h5.2⟩
  intro n hn
  match n, hn with
  | 0, _ => exact h0
  | 1, _ => exact h1
  | 2, _ => exact h2
  | 3, _ => exact h3
  | 4, _ => exact h4
  | 5, _ => exact h5
  | 6, _ => exact h6
  | k + 7, h => omega
theorem POK_made {p : Pos} (hp : POK p) {m : Mv} (hin : m ∈ allL p) : POK (madeP p m) := by
  have h6 := step_ok hp hin (takenP p m) 6 (Nat.le_refl _)
  have hr := allL_rng hp hin
  exact POK_turn h6.1 (by rw [h6.2]; exact hr.1)
def stepsF (bm : Nat) : List FnV := [(some (48, [ptrv bm moverT []], []) : FnV), (some (49, [ptrv bm moverT []], []) : FnV), (some (50, [ptrv bm moverT []], []) : FnV), (some (51, [ptrv bm moverT []], []) : FnV), (some (52, [ptrv bm moverT []], []) : FnV), (some (53, [ptrv bm moverT []], []) : FnV), (some (54, [ptrv bm moverT []], []) : FnV)]
theorem stepsF_wf (bm : Nat) : wf (.ar 7 .fn) (stepsF bm) := ⟨rfl, fun _ _ => trivial⟩
theorem steps_ok {p : Pos} (hp : POK p) {m : Mv} (hin : m ∈ allL p) (bm : Nat) (i : Nat) (hi : i < 7) : ∃ f, (stepsF bm).getD ((i : Nat) : Int).toNat (zero .fn) = some (f, [ptrv bm moverT []], []) ∧ (∀ av w, (callFunc f av).run Tryz.prog w = .ok (.enter f av) w) ∧
    ∀ M, TAB ∈ M → Con Tryz.prog f [ptrv bm moverT []] (.box bm 73 moverT ((stepQ p m (takenP p m) i), p, m, takenP p m, ()) :: M) (fun v M' => M' = .box bm 73 moverT ((stepQ p m (takenP p m) (i + 1)), p, m, takenP p m, ()) :: M) := by
  have hr := allL_rng hp hin
  have hm : MOK m := ⟨by omega, by omega, by omega, by omega⟩
  have htk := taken_rng hp m
  have hs := step_ok hp hin (takenP p m) i yo
  have ht : tu (stepQ p m (takenP p m) i) ≤ 1 := by rw [hs.2]; exact hr.1
  match i, hi with
  | 0, _ => exact ⟨48, rfl, Tryz.call48, fun M hT => c_after_mover_men _ p m (takenP p m) bm M hs.1 hp hm ht hr.2.1 hr.2.2.1 htk hr.1⟩
  | 1, _ => exact ⟨49, rfl, Tryz.call49, fun M hT => c_after_mover_pocket _ p m (takenP p m) bm M hs.1 hp hm ht hr.2.1 hr.2.2.1 htk hr.1⟩
  | 2, _ => exact ⟨50, rfl, Tryz.call50, fun M hT => c_after_mover_blow _ p m (takenP p m) bm M hs.1 hp hm ht hr.2.1 hr.2.2.1 htk hT⟩
  | 3, _ => exact ⟨51, rfl, Tryz.call51, fun M hT => c_after_mover_rights _ p m (takenP p m) bm M hs.1 hp hm ht hr.2.1 hr.2.2.1 htk hT⟩
  | 4, _ => exact ⟨52, rfl, Tryz.call52, fun M hT => c_after_mover_pass _ p m (takenP p m) bm M hs.1 hp hm ht hr.2.1 hr.2.2.1 htk⟩
  | 5, _ => exact ⟨53, rfl, Tryz.call53, fun M hT => c_after_mover_clocks _ p m (takenP p m) bm M hs.1 hp hm ht hr.2.1 hr.2.2.1 htk⟩
  | 6, _ => exact ⟨54, rfl, Tryz.call54, fun M hT => c_after_mover_turn _ p m (takenP p m) bm M hs.1 hp hm ht hr.2.1 hr.2.2.1 htk hT⟩

theorem c_after_Move (p : Pos) (hp : POK p) (m : Mv) (hm : MOK m) (M : List Fact) (hT : TAB ∈ M) : Pure Tryz.prog 19 [enc posT p, enc moveT m] M (.tuple #[enc posT (moveP p m).1, .bool (moveP p m).2]) := by
 obtain ⟨hb, hpw, hvr, htu, hpg, hvr0, htu0⟩ := hp.head
 have hmw := wf_move m
 have hl := allL_len p
 have htk := taken_rng hp m
 have hmvw : wf moverT (p, p, m, takenP p m, ()) := ⟨hpw, hpw, hmw, trivial, trivial⟩
 refine pure_of_W (n := 48) Tryz.func19 rfl rfl yn ?_
 refine w2 (fun w0 => ?_)
 refine LO_l rfl (by decide : 2 < 48) (ol_box (t := posT) rfl rfl rfl yf (fun b1 => ?_))
 refine LO_l rfl (by decide : 3 < 48) (ol_box (t := moveT) rfl rfl rfl yf (fun b2 => ?_))
 refine LO_l rfl (by decide : 4 < 48) (ol_alloc (t := posT) rfl tok31 yf (fun b3 => ?_))
 refine zA ?_
 refine LO_nil (W_seq (W_seq (W_regD (fun i => true) mixed (fun w0 => ?_))))
 refine D_mem0 (i := 0) rfl yk yk rfl rfl yd (ov_load rfl rfl ye trivial rfl rfl tok31) ?_
 refine D_mem0 (i := 2) rfl yk yk rfl rfl yd (ov_load rfl rfl ye trivial rfl rfl tok55) ?_
 refine D_one (i := 1) rfl yk rfl (by decide : 10 < 48) (ol_call (v0 := []) (v2 := []) rfl rfl rfl Tryz.call46 (Con.mono (by apply c_after_All <;> exact yz) ?_))
 rintro vA _ rfl
 refine ⟨xaay, ?_⟩
 refine D_oneV (i := 3) rfl yk rfl rfl yd xaay (yV rfl rfl rfl Tryz.call45 (c_slices_Contains vA (allL p) m _ (hl_row ye) hl)) ?_
 refine D_oneV (i := 4) rfl yk rfl rfl yd xaay (OpX.v (ov_not rfl rfl)) ?_
 refine D_end yk ?_
 refine W_cond rfl (fun hc1 => ?_) (fun hc1 => ?_)
 ·
  refine w2 (fun w0 => ?_)
  refine yL (ov_load rfl rfl ye trivial rfl rfl tok31) ?_
  refine LO_l rfl trivial (ol_sw1 rfl rfl rfl rfl yf tok31 ?_)
  refine zA ?_
  refine LO_nil (W_ret ⟨trivial, yb, (ResV_cell_tmp rfl rfl ye rfl tok31 rfl ?_)⟩)
  first | exact move_no hc1 | exact move_yes hc1
 ·
  have hin : m ∈ allL p := has_mem (by simpa using hc1)
  have hrg := allL_rng hp hin
  refine W_skip (W_seq (W_regD (fun i => true) mixed (fun w0 => ?_)))
  refine D_mem0 (i := 0) rfl yk yk rfl rfl yd (ov_load rfl rfl ye trivial rfl rfl tok31) ?_
  refine D_mem0 (i := 1) rfl yk yk rfl rfl yd (ov_load rfl rfl ye trivial rfl rfl tok31) ?_
  refine D_mem0 (i := 2) rfl yk yk rfl rfl yd (ov_load rfl rfl ye trivial rfl rfl tok55) ?_
  refine D_mem0 (i := 3) rfl yk yk rfl rfl yd (ov_load rfl rfl ye trivial rfl rfl tok31) ?_
  refine D_oneV (i := 4) rfl yk rfl rfl yd xaay (OpX.v (ov_load rfl rfl ye trivial rfl rfl tok55)) ?_
  refine D_oneV (i := 5) rfl yk rfl rfl yd xaay (yV rfl rfl rfl Tryz.call47 (by apply c_pseudo_Taken <;> exact yz)) ?_
  refine D_oneV (i := 6) rfl yk rfl rfl yd xaay (OpX.v (ov_build (fs := fs72) (ds := [⟨0, _⟩, ⟨1, _⟩, ⟨2, _⟩, ⟨3, _⟩]) rfl rfl bl73 ⟨yn, yf, ⟨yn, yf, ⟨yn, yf, ⟨yn, yf, trivial⟩⟩⟩⟩ rfl)) ?_
  refine D_one (i := 7) rfl yk rfl (by decide : 22 < 48) (ol_box (t := moverT) rfl rfl rfl yf (fun b4 => ⟨xaay, ?_⟩))
  refine D_oneV (i := 8) rfl yk rfl rfl yd xaay (OpX.v (ov_assign rfl rfl)) ?_
  refine D_end yk ?_
  refine W_seq (w1 ((yM ?_)))
  refine yR (ov_makeFunc rfl rfl rfl) ?_
  refine yM ?_
  refine yR (ov_makeFunc rfl rfl rfl) ?_
  refine yM ?_
  refine yR (ov_makeFunc rfl rfl rfl) ?_
  refine yM ?_
  refine yR (ov_makeFunc rfl rfl rfl) ?_
  refine yM ?_
  refine yR (ov_makeFunc rfl rfl rfl) ?_
  refine yM ?_
  refine yR (ov_makeFunc rfl rfl rfl) ?_
  refine yM ?_
  refine yR (ov_makeFunc rfl rfl rfl) ?_
  refine yR (ov_buildA (t := .fn) (ds := [(0, (some (48, [ptrv b4 moverT []], []) : FnV)), (1, (some (49, [ptrv b4 moverT []], []) : FnV)), (2, (some (50, [ptrv b4 moverT []], []) : FnV)), (3, (some (51, [ptrv b4 moverT []], []) : FnV)), (4, (some (52, [ptrv b4 moverT []], []) : FnV)), (5, (some (53, [ptrv b4 moverT []], []) : FnV)), (6, (some (54, [ptrv b4 moverT []], []) : FnV))]) rfl rfl bl74 ⟨yn, yf, ⟨yn, yf, ⟨yn, yf, ⟨yn, yf, ⟨yn, yf, ⟨yn, yf, ⟨yn, yf, trivial⟩⟩⟩⟩⟩⟩⟩ rfl) ?_
  refine yM ?_
  refine RO_nil (W_block (W_loop (σ := Nat) (fun s5 => s5 ≤ 7) (fun s5 => [(4, ptrv b3 posT []), (6, ptrv b4 moverT []), (37, enc (.ar 7 .fn) (stepsF b4)), (38, .int .i64 (s5 : Int))]) (fun s5 => .box b4 73 moverT (stepQ p m (takenP p m) s5, p, m, takenP p m, ()) :: .box b3 31 posT (zero posT) :: .box b2 55 moveT m :: .box b1 31 posT p :: M) (fun s5 => 7 - s5) (0) (by simp) ⟨rfl, rfl, rfl, rfl, trivial⟩ yb ?_))
  rintro i hI
  refine w1 ((yR (ov_lss rfl rfl rfl) ?_))
  refine RO_nil (W_seq (W_cond rfl (fun hc2 => ?_) (fun hc2 => ?_)))
  ·
   try simp only [yS] at hc2
   refine W_skip (W_seq (W_block (W_seq ?_)))
   obtain ⟨f, hf, hcf, hcon_⟩ := steps_ok hp hin b4 i yo
   refine W_reg (yR (ov_index (t := .ar 7 .fn) (v := .func (.func f) #[ptrv b4 moverT []] #[]) rfl rfl (stepsF_wf b4) rfl rfl Tryz.underlying74 yo yo (tn yo yo) rfl rfl (by show some (encFn _) = _; rw [hf]; rfl) tok1) ?_)
   refine yA_ ?_
   refine RO_nil (W_regl (fun w0 => ?_))
   refine zM ?_
   refine LO_l rfl (by decide : 42 < 48) (ol_call  rfl rfl rfl hcf (Con.mono (hcon_ _ ye) ?_))
   rintro _ _ rfl
   refine LO_nil (W_reg (yR (ov_add rfl rfl rfl ya) ?_))
   refine yM ?_
   refine RO_nil ?_
   exact ⟨i + 1, yo, yo, ⟨rfl, rfl, rfl, rfl, trivial⟩, yb⟩
  ·
   try simp only [yS] at hc2
   refine W_exit (W_seq ?_)
   obtain rfl : i = 7 := by omega
   have hmk : wf posT (stepQ p m (takenP p m) 7) := (POK_made hp hin).wf
   refine W_regl (fun w0 => ?_)
   refine zM ?_
   refine yL (ov_nilptr rfl rfl) ?_
   refine yL (ov_fieldAddr rfl rfl fa73_0 rfl) ?_
   refine yL (ov_load rfl rfl ye ⟨trivial, yn⟩ rfl rfl tok31) ?_
   refine LO_l rfl trivial (ol_sw1 rfl rfl rfl rfl yf tok31 ?_)
   refine zA ?_
   refine LO_nil (W_ret ⟨trivial, yb, (ResV_cell_tmp rfl rfl ye rfl tok31 rfl ?_)⟩)
   first | exact move_no hc1 | exact move_yes hc1
end Go.Kw
set_option linter.unusedVariables false
namespace Go.Kw
open Go.Proofs


theorem getD_mem (xs : List (El moveT)) {i : Nat} (h : i < xs.length) : xs.getD ((i : Nat) : Int).toNat (zero moveT) ∈ (show List Mv from xs) := by
  have key : ∀ l : List Mv, i < l.length → l.getD i (zero moveT) ∈ l := fun l hl => by
    rw [List.getD_eq_getElem?_getD, List.getElem?_eq_getElem hl]; exact List.getElem_mem hl
  exact key xs h
theorem idx_nat {f : Mv → Bool} {xs : List (El moveT)} (h : ¬ idxM f xs 0 = -1) : ∃ i0 : Nat, idxM f xs 0 = (i0 : Int) ∧ i0 < xs.length := by
  rcases idx_rng f xs 0 with h' | h'
  · exact absurd h' h
  · exact ⟨(idxM f xs 0).toNat, by omega, by omega⟩
theorem idx_first_ {f : Mv → Bool} : ∀ (xs : List Mv) (k i : Nat), idxM f xs k = ((k + i : Nat) : Int) → i < xs.length → (∀ j, j < i → f (xs.getD j (zero moveT)) = false) ∧ f (xs.getD i (zero moveT)) = true
  | [], _, _, _, h => by simp at h
  | x :: r, k, i, he, h => by
    unfold idxM at he
    split at he
    · rename_i hx
      have : i = 0 := by omega
      subst this
      exact ⟨fun j hj => by omega, hx⟩
    · rename_i hx
      cases i with
      | zero =>
        rcases idx_rng f r (k + 1) with h' | h' <;> omega
      | succ i =>
        obtain ⟨g1, g2⟩ := idx_first_ r (k + 1) i (by rw [he]; congr 1; omega) (by simp at h; omega)
        refine ⟨fun j hj => ?_, g2⟩
        cases j with
        | zero => simpa using hx
        | succ j => exact g1 j yo
theorem idx_first {f : Mv → Bool} {xs : List (El moveT)} {i0 : Nat} (h : idxM f xs 0 = (i0 : Int)) (hi : i0 < xs.length) : (∀ j, j < i0 → f ((show List Mv from xs).getD j (zero moveT)) = false) ∧ f ((show List Mv from xs).getD i0 (zero moveT)) = true :=
  idx_first_ xs 0 i0 (by rw [h]; congr 1; omega) hi
def DelI (f : Mv → Bool) (xs : List (El moveT)) (i j : Nat) (ys : List (El moveT)) : Prop :=
  ys.length = xs.length ∧ j ≤ xs.length ∧ i < j ∧ (show List Mv from ys).take i = ((show List Mv from xs).take j).filter (fun x => !f x) ∧ (show List Mv from ys).drop j = (show List Mv from xs).drop j
theorem del_0_ {f : Mv → Bool} {xs : List Mv} {i0 : Nat} (h : i0 < xs.length) (h1 : ∀ j, j < i0 → f (xs.getD j (zero moveT)) = false) (h2 : f (xs.getD i0 (zero moveT)) = true) : xs.take i0 = (xs.take (i0 + 1)).filter (fun x => !f x) := by
  rw [List.take_add_one, List.getElem?_eq_getElem h, List.filter_append]
  have e2 : xs.getD i0 (zero moveT) = xs[i0] := by rw [List.getD_eq_getElem?_getD, List.getElem?_eq_getElem h]; rfl
  rw [e2] at h2
  have e3 : (Option.toList (some xs[i0])).filter (fun x => !f x) = [] := by simp [h2]
  rw [e3, List.append_nil]
  symm
  rw [List.filter_eq_self]
  intro x hx
  obtain ⟨j, hj, rfl⟩ := List.mem_iff_getElem.1 hx
  have hj' : j < i0 := by rw [List.length_take] at hj; omega
  have := h1 j hj'
  rw [List.getD_eq_getElem?_getD, List.getElem?_eq_getElem yo] at this
  rw [List.getElem_take]
  simpa using this
theorem del_0 {f : Mv → Bool} {xs : List (El moveT)} {i0 : Nat} (h : i0 < xs.length) (h1 : ∀ j, j < i0 → f ((show List Mv from xs).getD j (zero moveT)) = false) (h2 : f ((show List Mv from xs).getD i0 (zero moveT)) = true) : DelI f xs i0 (i0 + 1) xs :=
  ⟨rfl, h, by omega, del_0_ h h1 h2, rfl⟩
theorem del_at_ {ys xs : List Mv} {j : Nat} (h : ys.drop j = xs.drop j) (hj : j < xs.length) (hl : ys.length = xs.length) : ys.getD j (zero moveT) = xs.getD j (zero moveT) := by
  have e := congrArg (·[0]?) h
  simp only [List.getElem?_drop, Nat.add_zero] at e
  rw [List.getD_eq_getElem?_getD, List.getD_eq_getElem?_getD, e]
theorem del_at {f : Mv → Bool} {xs ys : List (El moveT)} {i : Nat} {j0 : Nat} (hI : DelI f xs i j0 ys) (j : Nat) (h : j0 < xs.length) (e : j = j0 := by rfl) : ys.getD ((j : Nat) : Int).toNat (zero moveT) = xs.getD ((j : Nat) : Int).toNat (zero moveT) := by
  subst e; exact del_at_ hI.2.2.2.2 h hI.1
theorem del_next_ {f : Mv → Bool} {xs ys : List Mv} {i j : Nat} (h1 : ys.length = xs.length) (h2 : i < j) (h3 : ys.take i = (xs.take j).filter (fun x => !f x)) (h4 : ys.drop j = xs.drop j) (hj : j < xs.length) (hf : f (xs.getD j (zero moveT)) = false) :
    (ys.set i (xs.getD j (zero moveT))).take (i + 1) = (xs.take (j + 1)).filter (fun x => !f x) ∧ (ys.set i (xs.getD j (zero moveT))).drop (j + 1) = xs.drop (j + 1) := by
  have e2 : xs.getD j (zero moveT) = xs[j] := by rw [List.getD_eq_getElem?_getD, List.getElem?_eq_getElem hj]; rfl
  rw [e2] at hf ⊢
  constructor
  · rw [List.take_add_one (l := xs), List.getElem?_eq_getElem hj, List.filter_append, ← h3]
    have e3 : (Option.toList (some xs[j])).filter (fun x => !f x) = [xs[j]] := by simp [hf]
    rw [e3, List.take_add_one, List.getElem?_set_self yo, List.take_set_of_le (Nat.le_refl _)]; rfl
  · rw [List.drop_set_of_lt yo]
    have := congrArg (List.drop 1) h4
    simpa [List.drop_drop, Nat.add_comm] using this
theorem del_skip_ {f : Mv → Bool} {xs ys : List Mv} {i j : Nat} (h3 : ys.take i = (xs.take j).filter (fun x => !f x)) (h4 : ys.drop j = xs.drop j) (hj : j < xs.length) (hf : f (xs.getD j (zero moveT)) = true) :
    ys.take i = (xs.take (j + 1)).filter (fun x => !f x) ∧ ys.drop (j + 1) = xs.drop (j + 1) := by
  have e2 : xs.getD j (zero moveT) = xs[j] := by rw [List.getD_eq_getElem?_getD, List.getElem?_eq_getElem hj]; rfl
  rw [e2] at hf
  constructor
  · rw [List.take_add_one, List.getElem?_eq_getElem hj, List.filter_append, ← h3]
    have e3 : (Option.toList (some xs[j])).filter (fun x => !f x) = [] := by simp [hf]
    rw [e3, List.append_nil]
  · have := congrArg (List.drop 1) h4
    simpa [List.drop_drop, Nat.add_comm] using this
theorem del_keep {f : Mv → Bool} {xs ys : List (El moveT)} {i j : Nat} (hI : DelI f xs i j ys) (hj : j < xs.length) (hf : (!f (xs.getD ((j : Nat) : Int).toNat (zero moveT))) = true) : DelI f xs (i + 1) (j + 1) (ys.set i (ys.getD ((j : Nat) : Int).toNat (zero moveT))) := by
  rw [del_at hI j hj]
  obtain ⟨h1, h2, h3, h4, h5⟩ := hI
  obtain ⟨g1, g2⟩ := del_next_ h1 h3 h4 h5 hj (by simpa using hf)
  exact ⟨by rw [List.length_set]; exact h1, hj, by omega, g1, g2⟩
theorem del_drop {f : Mv → Bool} {xs ys : List (El moveT)} {i j : Nat} (hI : DelI f xs i j ys) (hj : j < xs.length) (hf : (!f (xs.getD ((j : Nat) : Int).toNat (zero moveT))) = false) : DelI f xs i (j + 1) ys := by
  obtain ⟨h1, h2, h3, h4, h5⟩ := hI
  obtain ⟨g1, g2⟩ := del_skip_ h4 h5 hj (by simpa using hf)
  exact ⟨h1, hj, by omega, g1, g2⟩
theorem del_none {f : Mv → Bool} {xs : List (El moveT)} (h : idxM f xs 0 = -1) : (xs.filter fun x => !f x) = xs := by
  have key : ∀ (xs : List Mv) (k : Nat), idxM f xs k = -1 → (xs.filter fun x => !f x) = xs := by
    intro xs
    induction xs with
    | nil => intro _ _; rfl
    | cons x r ih =>
      intro k h
      unfold idxM at h
      split at h
      · omega
      · rename_i hx
        rw [List.filter_cons, if_pos (by simpa using hx), ih (k + 1) h]
  exact key xs 0 h
theorem del_sub {f : Mv → Bool} {xs ys : List (El moveT)} {i j : Nat} {v : Value} {M : List Fact} (hI : DelI f xs i j ys) (hj : xs.length ≤ j) :
    List.Sublist (.row v 55 moveT (xs.filter fun x => !f x) :: M) (.row v 55 moveT ((ys.take ((i : Nat) : Int).toNat ++ List.replicate (ys.length - ((i : Nat) : Int).toNat) (zero moveT)).take ((i : Nat) : Int).toNat) :: M) := by
  obtain ⟨h1, h2, h3, h4, h5⟩ := hI
  have e : (ys.take ((i : Nat) : Int).toNat ++ List.replicate (ys.length - ((i : Nat) : Int).toNat) (zero moveT)).take ((i : Nat) : Int).toNat = (xs.filter fun x => !f x) := by
    show List.take i (List.append (List.take i (show List Mv from ys)) _) = List.filter _ (show List Mv from xs)
    have hl : (List.take i (show List Mv from ys)).length = i := by
      rw [List.length_take]
      have : (show List Mv from ys).length = ys.length := rfl
      omega
    rw [List.append_eq, List.take_append_of_le_length yo, List.take_of_length_le yo, h4, List.take_of_length_le hj]
  rw [e]
  exact List.Sublist.refl _

theorem c_slices_IndexFunc (v : Value) (xs : List (El moveT)) (cf : FuncId) (cv : List Value) (f : Mv → Bool) (M : List Fact) (hcf : ∀ av w, (callFunc cf av).run Tryz.prog w = .ok (.enter cf av) w) (hh : ∀ x, x ∈ (show List Mv from xs) → Pure Tryz.prog cf (enc moveT x :: cv) M (.bool (f x))) (hl : HasList M v moveT xs) (hlen : xs.length ≤ 1000000) : Pure Tryz.prog 148 [v, (.func (.func cf) #[] cv.toArray)] M (.int .i64 (idxM f xs 0)) := by
 refine pure_of_W (n := 19) Tryz.func148 rfl rfl yn ?_
 refine w1 ((yA_ ?_))
 refine RO_nil (W_seq (w1 ((yM ?_))))
 refine yR (ov_len rfl rfl xaby Tryz.underlying48) ?_
 refine yM ?_
 refine RO_nil (W_block (W_loop (σ := Nat) (fun s5 => s5 ≤ xs.length ∧ idxM f xs 0 = idxM f (xs.drop s5) s5) (fun s5 => [(0, v), (1, (.func (.func cf) #[] cv.toArray)), (6, v), (7, .int .i64 (xs.length : Int)), (8, .int .i64 (s5 : Int))]) (fun s5 => M) (fun s5 => xs.length - s5) (0) ⟨by omega, rfl⟩ ⟨rfl, rfl, rfl, rfl, rfl, trivial⟩ yb ?_))
 rintro i ⟨hI, hJ⟩
 refine w1 ((yR (ov_lss rfl rfl rfl) ?_))
 refine RO_nil (W_seq (W_cond rfl (fun hc1 => ?_) (fun hc1 => ?_)))
 ·
  try simp only [yS] at hc1
  refine W_skip (W_seq (W_block (w1 ((yM ?_)))))
  refine yA_ ?_
  refine RO_nil (w1 ((yM ?_)))
  refine yM ?_
  refine yM ?_
  refine yR (ov_indexAddr_sl (t := moveT) rfl rfl xaby rfl Tryz.underlying48 Tryz.sizeOf55 ya ya) ?_
  refine yR (ov_load_e (t := moveT) (p := []) rfl rfl xaby ya trivial rfl rfl tok55) ?_
  refine yP (ov_call  rfl rfl rfl hcf (hh _ (getD_mem xs yo))) ?_
  refine RO_nil (W_cond rfl (fun hc2 => ?_) (fun hc2 => ?_))
  ·
   refine w1 ((yM ?_))
   refine yA_ ?_
   refine RO_nil (W_ret ⟨trivial, yb, (ResV_tmp1 rfl rfl ?_)⟩)
   exact val_int (by first | (rw [hJ, idx_yes yo hc2]) | (rw [hJ, List.drop_eq_nil_of_le yo]; rfl))
  ·
   refine W_skip (W_reg (yR (ov_add rfl rfl rfl ya) ?_))
   refine yM ?_
   refine RO_nil ?_
   exact ⟨i + 1, yo, ⟨by omega, by rw [hJ, idx_no yo hc2]⟩, ⟨rfl, rfl, rfl, rfl, rfl, trivial⟩, yb⟩
 ·
  try simp only [yS] at hc1
  refine W_exit (w1 ((yA_ ?_)))
  refine RO_nil (W_ret ⟨trivial, yb, (ResV_tmp1 rfl rfl ?_)⟩)
  exact val_int (by first | (rw [hJ, idx_yes yo hc2]) | (rw [hJ, List.drop_eq_nil_of_le yo]; rfl))

theorem c_slices_ContainsFunc (v : Value) (xs : List (El moveT)) (cf : FuncId) (cv : List Value) (f : Mv → Bool) (M : List Fact) (hcf : ∀ av w, (callFunc cf av).run Tryz.prog w = .ok (.enter cf av) w) (hh : ∀ x, x ∈ (show List Mv from xs) → Pure Tryz.prog cf (enc moveT x :: cv) M (.bool (f x))) (hl : HasList M v moveT xs) (hlen : xs.length ≤ 1000000) : Pure Tryz.prog 83 [v, (.func (.func cf) #[] cv.toArray)] M (.bool (decide (0 ≤ idxM f xs 0))) := by
 refine pure_of_W (n := 9) Tryz.func83 rfl rfl yn ?_
 refine w1 ((yA_ ?_))
 refine RO_nil (w1 ((yM ?_)))
 refine yM ?_
 refine yP (yV rfl rfl rfl Tryz.call148 (c_slices_IndexFunc v xs cf cv f _ hcf hh hl hlen)) ?_
 refine yR (ov_geq rfl rfl rfl) ?_
 refine yA_ ?_
 refine RO_nil (W_ret ⟨trivial, yb, (ResV_tmp1 rfl rfl ?_)⟩)
 rfl

theorem c_slices_Clone (v : Value) (xs : List (El moveT))  (M : List Fact) (hl : HasList M v moveT xs) (hlen : xs.length ≤ 1000000) : Con Tryz.prog 77 [v] M (fun u M' => M' = .row u 55 moveT xs :: M) := by
 refine con_of_W (n := 8) Tryz.func77 rfl rfl yn ?_
 refine w1 ((yA_ ?_))
 refine RO_nil (W_seq (w1 ((yM ?_))))
 refine yR (ov_eqlnil (t := moveT) rfl rfl rfl xaby Tryz.underlying48) ?_
 refine RO_nil (W_cond rfl (fun hc1 => ?_) (fun hc1 => ?_))
 ·
  refine W_nil (t := moveT) hc1 hl (fun hv hx => ?_)
  refine W_row 55 moveT ?_
  refine w1 ((yA_ ?_))
  refine RO_nil (W_ret ⟨trivial, _, .row _ 55 moveT (xs) :: M, (ResV_tmp1 rfl rfl rfl), ?_, rfl⟩)
  first | exact List.Sublist.refl _ | (rw [hx]; exact List.Sublist.refl _)
 ·
  refine W_skip (w2 (fun w0 => ?_))
  refine LO_l rfl (by decide : 5 < 8) (ol_buildSlice0 (t := moveT) rfl Tryz.underlying48 Tryz.sizeOf55 (fun v1 => ?_))
  refine zM ?_
  refine LO_l rfl (by decide : 7 < 8) (ol_ap0 (t := moveT) rfl rfl rfl (HasList.sub (List.sublist_cons_self _ _) hl) ap48 (by show (0 + _) * 5 ≤ _; omega) (by exact Nat.le_trans (show (0 + _) ≤ 1000000 by omega) yd) (fun v2 => ?_))
  refine zA ?_
  refine LO_nil (W_ret ⟨trivial, _, .row _ 55 moveT (xs) :: M, (ResV_tmp1 rfl rfl rfl), ?_, rfl⟩)
  first | exact List.Sublist.refl _ | (rw [hx]; exact List.Sublist.refl _)

theorem c_slices_DeleteFunc (v : Value) (xs : List (El moveT)) (cf : FuncId) (cv : List Value) (f : Mv → Bool) (M : List Fact) (hcf : ∀ av w, (callFunc cf av).run Tryz.prog w = .ok (.enter cf av) w) (hh : ∀ x, x ∈ (show List Mv from xs) → Pure Tryz.prog cf (enc moveT x :: cv) M (.bool (f x))) (hlen : xs.length ≤ 1000000) : Con Tryz.prog 76 [v, (.func (.func cf) #[] cv.toArray)] (.row v 55 moveT xs :: M) (fun u M' => M' = .row u 55 moveT (xs.filter fun x => !f x) :: M) := by
 have hmw : ∀ m : Mv, wf moveT m := wf_move
 have hir := idx_rng f xs 0
 refine con_of_W (n := 42) Tryz.func76 rfl rfl yn ?_
 refine w1 ((yA_ ?_))
 refine RO_nil (w1 ((yM ?_)))
 refine yM ?_
 refine yP (yV rfl rfl rfl Tryz.call148 (c_slices_IndexFunc v xs cf cv f _ hcf (fun x hx => Pure.frame (A := [_]) (hh x hx)) (hl_row (.head _)) hlen)) ?_
 refine yA_ ?_
 refine RO_nil (W_seq (w1 ((yM ?_))))
 refine yR (ov_eql rfl rfl rfl) ?_
 refine RO_nil (W_cond rfl (fun hc1 => ?_) (fun hc1 => ?_))
 ·
  try simp only [yS] at hc1
  refine w1 ((yM ?_))
  refine yA_ ?_
  refine RO_nil (W_ret ⟨trivial, _, .row _ 55 moveT (xs.filter fun x => !f x) :: M, (ResV_tmp1 rfl rfl rfl), ?_, rfl⟩)
  first | (rw [del_none hc1]; exact yb) | exact del_sub hI yo
 ·
  try simp only [yS] at hc1
  obtain ⟨i0, hi0, hi1⟩ : ∃ i0 : Nat, idxM f xs 0 = (i0 : Int) ∧ i0 < xs.length := idx_nat hc1
  rw [hi0]
  obtain ⟨hf1, hf2⟩ := idx_first hi0 hi1
  refine W_skip (W_seq (w1 ((yM ?_))))
  refine yR (ov_add rfl rfl rfl ya) ?_
  refine yA_ ?_
  refine RO_nil (W_block (W_loop (σ := Nat × Nat × List (El moveT)) (fun s => DelI f xs s.1 s.2.1 s.2.2) (fun s => [(0, v), (1, (.func (.func cf) #[] cv.toArray)), (6, .int .i64 (s.2.1 : Int)), (5, .int .i64 (s.1 : Int))]) (fun s => .row v 55 moveT s.2.2 :: M) (fun s => xs.length - s.2.1) ((i0, i0 + 1, xs)) (del_0 hi1 hf1 hf2) ⟨rfl, rfl, rfl, rfl, trivial⟩ yb ?_))
  rintro ⟨i, j, ys⟩ hI
  simp only at hI
  dsimp only
  have hd1 := hI.1
  have hd2 := hI.2.1
  have hd3 := hI.2.2.1
  refine W_seq (w1 ((yM ?_)))
  refine yM ?_
  refine yR (ov_len rfl rfl xaby Tryz.underlying48) ?_
  refine yR (ov_lss rfl rfl rfl) ?_
  refine RO_nil (W_cond rfl (fun hc2 => ?_) (fun hc2 => ?_))
  ·
   try simp only [yS] at hc2
   have hjx : j < xs.length := by omega
   have hat := del_at hI j hjx
   refine W_skip (W_seq (W_block (w2 (fun w0 => ?_))))
   refine zM ?_
   refine zM ?_
   refine yL (ov_indexAddr_sl (t := moveT) rfl rfl xaby rfl Tryz.underlying48 Tryz.sizeOf55 ya ya) ?_
   refine yL (ov_load_e (t := moveT) (p := []) rfl rfl xaby ya trivial rfl rfl tok55) ?_
   refine LO_l rfl (by decide : 7 < 42) (ol_alloc (t := moveT) rfl tok55 yf (fun b1 => ?_))
   refine LO_l rfl trivial (ol_sw0 rfl rfl rfl rfl yf tok55 ?_)
   refine LO_nil (w1 ((yM ?_)))
   refine yR (ov_load rfl rfl ye trivial rfl rfl tok55) ?_
   refine yP (ov_call  rfl rfl rfl hcf (show Pure Tryz.prog cf (enc moveT (ys.getD ((j : Nat) : Int).toNat (zero moveT)) :: cv) (_ :: _ :: M) (.bool (f (xs.getD ((j : Nat) : Int).toNat (zero moveT)))) from by rw [hat]; exact Pure.frame (A := [_, _]) (hh _ (getD_mem xs yo)))) ?_
   refine yR (ov_not rfl rfl) ?_
   refine RO_nil (W_cond rfl (fun hc3 => ?_) (fun hc3 => ?_))
   ·
    refine w2 (fun w0 => ?_)
    refine zM ?_
    refine zM ?_
    refine yL (ov_load rfl rfl ye trivial rfl rfl tok55) ?_
    refine yL (ov_indexAddr_sl (t := moveT) rfl rfl xaby rfl Tryz.underlying48 Tryz.sizeOf55 ya ya) ?_
    refine LO_l rfl trivial (ol_rowst (t := moveT) (l1 := [_]) rfl rfl rfl rfl yo rfl yf tok55 ?_)
    refine LO_nil (W_reg (yM ?_))
    refine yR (ov_add rfl rfl rfl ya) ?_
    refine yA_ ?_
    refine RO_nil (W_reg (yM ?_))
    refine yR (ov_add rfl rfl rfl ya) ?_
    refine yA_ ?_
    refine RO_nil ?_
    exact ⟨(_, j + 1, _), xaly, (by first | exact del_keep hI hjx hc3 | exact del_drop hI hjx hc3), ⟨rfl, rfl, rfl, rfl, trivial⟩, yb⟩
   ·
    refine W_skip (W_reg (yM ?_))
    refine yR (ov_add rfl rfl rfl ya) ?_
    refine yA_ ?_
    refine RO_nil ?_
    exact ⟨(_, j + 1, _), xaly, (by first | exact del_keep hI hjx hc3 | exact del_drop hI hjx hc3), ⟨rfl, rfl, rfl, rfl, trivial⟩, yb⟩
  ·
   try simp only [yS] at hc2
   refine W_exit (w2 (fun w0 => ?_))
   refine zM ?_
   refine zM ?_
   refine yL (ov_tail (t := moveT) rfl rfl rfl ye yo yo Tryz.underlying48 Tryz.sizeOf55) ?_
   refine LO_l rfl trivial (ol_clear (t := moveT) (l1 := []) rfl rfl rfl yo Tryz.underlying48 tok55 yd ?_)
   refine LO_nil (w2 (fun w0 => ?_))
   refine zM ?_
   refine zM ?_
   refine LO_l rfl (by decide : 41 < 42) (ol_cut (t := moveT) (l1 := []) rfl rfl rfl rfl yo (by simp; omega) Tryz.underlying48 Tryz.sizeOf55 ?_)
   refine zA ?_
   refine LO_nil (W_ret ⟨trivial, _, .row _ 55 moveT (xs.filter fun x => !f x) :: M, (ResV_tmp1 rfl rfl rfl), ?_, rfl⟩)
   first | (rw [del_none hc1]; exact yb) | exact del_sub hI yo
end Go.Kw
set_option linter.unusedVariables false
namespace Go.Kw
open Go.Proofs
theorem tok58 : TyOK Tryz.prog 58 resT := ⟨Tryz.isAgg58, Tryz.sizeOf58, Tryz.zeroValue58⟩
abbrev fs57 : List Ty := [u8, u8]
theorem bl58 : BuildOK Tryz.prog 58 fs57 := ⟨_, _, rfl, rfl, Tryz.underlying58, by kernel_rfl⟩

def winsP (c w : Int) : Res := (1 + c, w, ())
def hasK (p : Pos) (c : Int) : Bool := decide (0 ≤ firstB (ofB p c 6))
theorem moveP_ok {p : Pos} (hp : POK p) {m : Mv} (h : (moveP p m).2 = true) : tu p ≤ 1 ∧ POK (moveP p m).1 := by
  unfold moveP at *
  split at h
  · cases h
  · rename_i hn
    have hin : m ∈ allL p := has_mem (by simpa using hn)
    rw [if_neg hn]
    exact ⟨(allL_rng hp hin).1, POK_made hp hin⟩
theorem moveP_wf {p : Pos} (hp : POK p) (m : Mv) : wf posT (moveP p m).1 := by
  unfold moveP
  split
  · exact hp.wf
  · rename_i hn
    exact (POK_made hp (has_mem (by simpa using hn))).wf
def wellT (p q : Pos) : Bool := !decide (vr p = 8) || !checkP q (1 - tu p)
def wellR (p q : Pos) : Bool := if (!hasK q (tu p)) = true then false else if (checkP q (tu p) && (!decide (vr p = 3) || hasK q (1 - tu p))) = true then false else wellT p q
def wellP (p : Pos) (m : Mv) : Bool := if (!(moveP p m).2) = true then false else if royalP (vr p) (tu p) = true then wellR p (moveP p m).1 else wellT p (moveP p m).1
theorem not_not_filter (xs : List (El moveT)) (f : Mv → Bool) : (xs.filter fun x => !(!f x)) = xs.filter f := by
  congr 1; funext x; simp
def takesP (p : Pos) (m : Mv) : Bool := decide (0 ≤ takenP p m)
theorem allL_mok {p : Pos} (hp : POK p) {m : Mv} (h : m ∈ allL p) : MOK m := by
  have hr := allL_rng hp h
  exact ⟨by omega, by omega, by omega, by omega⟩
def wouldP (p : Pos) : List Mv :=
  if (royalP (vr p) (tu p) && !hasK p (tu p)) = true then []
  else if (decide (vr p = 4) && decide (0 ≤ idxM (takesP p) ((allL p).filter (wellP p)) 0)) = true then ((allL p).filter (wellP p)).filter (takesP p) else (allL p).filter (wellP p)

theorem c_legal_wins (c w : Int) (M : List Fact) (h0 : 0 ≤ c) (h1 : c ≤ 1) : Pure Tryz.prog 184 [.int .u8 c, .int .u8 w] M (enc resT (winsP c w)) := by
 refine pure_of_W (n := 9) Tryz.func184 rfl rfl yn ?_
 refine w2 (fun w0 => ?_)
 refine LO_l rfl (by decide : 4 < 9) (ol_alloc (t := resT) rfl tok58 yf (fun b1 => ?_))
 refine LO_nil (w2 (fun w0 => ?_))
 refine zM ?_
 refine yL (ov_add rfl rfl rfl ya) ?_
 refine zM ?_
 refine yL (ov_build (fs := fs57) (ds := [⟨0, _⟩, ⟨1, _⟩]) rfl rfl bl58 ⟨yn, yf, ⟨yn, yf, trivial⟩⟩ rfl) ?_
 refine LO_l rfl trivial (ol_sw0 rfl rfl rfl rfl yf tok58 ?_)
 refine LO_nil (W_ret ⟨trivial, yb, (ResV_cell rfl rfl ye rfl tok58 ?_)⟩)
 rfl

theorem c_legal_has (p : Pos) (hp : POK p) (c : Int) (M : List Fact) (hT : TAB ∈ M) : Pure Tryz.prog 74 [enc posT p, .int .u8 c] M (.bool (hasK p c)) := by
 obtain ⟨hb, hpw, hvr, htu, hpg, hvr0, htu0⟩ := hp.head
 refine pure_of_W (n := 9) Tryz.func74 rfl rfl yn ?_
 refine w2 (fun w0 => ?_)
 refine LO_l rfl (by decide : 2 < 9) (ol_box (t := posT) rfl rfl rfl yf (fun b1 => ?_))
 refine zA ?_
 refine LO_nil (w1 ((yR (ov_load rfl rfl ye trivial rfl rfl tok31) ?_)))
 refine yM ?_
 refine yP (yV rfl rfl rfl Tryz.call115 (by apply c_board_Find <;> exact yz)) ?_
 refine yR (ov_geq rfl rfl rfl) ?_
 refine yA_ ?_
 refine RO_nil (W_ret ⟨trivial, yb, (ResV_tmp1 rfl rfl ?_)⟩)
 rfl

theorem c_legal_Well (p : Pos) (hp : POK p) (m : Mv) (hm : MOK m) (M : List Fact) (hT : TAB ∈ M) : Pure Tryz.prog 80 [enc posT p, enc moveT m] M (.bool (wellP p m)) := by
 obtain ⟨hb, hpw, hvr, htu, hpg, hvr0, htu0⟩ := hp.head
 have hmF := hm.f
 have hmT := hm.t
 have hmP := hm.p
 have hmD := hm.d
 have hmF0 := hm.f
 have hmT0 := hm.t
 have hmP0 := hm.p
 have hmD0 := hm.d
 simp only [mF] at hmF0
 simp only [mT] at hmT0
 simp only [mP] at hmP0
 simp only [mD] at hmD0
 have hmw := wf_move m
 have hqw := moveP_wf hp m
 refine pure_of_W (n := 52) Tryz.func80 rfl rfl yn ?_
 refine w2 (fun w0 => ?_)
 refine LO_l rfl (by decide : 2 < 52) (ol_box (t := posT) rfl rfl rfl yf (fun b1 => ?_))
 refine LO_l rfl (by decide : 3 < 52) (ol_box (t := moveT) rfl rfl rfl yf (fun b2 => ?_))
 refine zA ?_
 refine LO_nil (w2 (fun w0 => ?_))
 refine yL (ov_load rfl rfl ye trivial rfl rfl tok31) ?_
 refine yL (ov_load rfl rfl ye trivial rfl rfl tok55) ?_
 refine yQ (yV rfl rfl rfl Tryz.call19 (c_after_Move p hp m hm _ ye)) ?_
 refine zM ?_
 refine yL (ov_extract rfl rfl rfl) ?_
 refine yL (ov_extract rfl rfl rfl) ?_
 refine LO_l rfl (by decide : 5 < 52) (ol_alloc (t := posT) rfl tok31 yf (fun b3 => ?_))
 refine LO_l rfl trivial (ol_sw0 rfl rfl rfl rfl yf tok31 ?_)
 refine zA ?_
 refine LO_nil (W_seq (w1 ((yM ?_))))
 refine yR (ov_not rfl rfl) ?_
 refine RO_nil (W_cond rfl (fun hc1 => ?_) (fun hc1 => ?_))
 ·
  refine w1 ((yA_ ?_))
  refine RO_nil (W_ret ⟨trivial, yb, (ResV_tmp1 rfl rfl ?_)⟩)
  exact xbhy
 ·
  have hok : (moveP p m).2 = true := by simpa using hc1
  have hmk := moveP_ok hp hok
  have hq : POK (moveP p m).1 := hmk.2
  have ht1 : tu p ≤ 1 := hmk.1
  have ht2 := ht1
  simp only [tu] at ht2
  refine W_skip (W_seq (w1 ((yR (ov_fieldAddr rfl rfl fa31_0 rfl) ?_))))
  refine yR (ov_load rfl rfl ye ⟨trivial, yn⟩ rfl rfl tok5) ?_
  refine yR (ov_fieldAddr rfl rfl fa31_4 rfl) ?_
  refine yR (ov_load rfl rfl ye ⟨trivial, yn⟩ rfl rfl tok5) ?_
  refine yP (yV rfl rfl rfl Tryz.call73 (by apply c_rules_Royal <;> exact yz)) ?_
  refine RO_nil (W_cond rfl (fun hc2 => ?_) (fun hc2 => ?_))
  ·
   refine W_seq (w1 ((yR (ov_load rfl rfl ye trivial rfl rfl tok31) ?_)))
   refine yR (ov_fieldAddr rfl rfl fa31_4 rfl) ?_
   refine yR (ov_load rfl rfl ye ⟨trivial, yn⟩ rfl rfl tok5) ?_
   refine yP (yV rfl rfl rfl Tryz.call74 (c_legal_has (moveP p m).1 hq (tu p) _ ye)) ?_
   refine yR (ov_not rfl rfl) ?_
   refine RO_nil (W_cond rfl (fun hc3 => ?_) (fun hc3 => ?_))
   ·
    refine w1 ((yA_ ?_))
    refine RO_nil (W_ret ⟨trivial, yb, (ResV_tmp1 rfl rfl ?_)⟩)
    exact xbhy
   ·
    refine W_skip (w1 ((yR (ov_load rfl rfl ye trivial rfl rfl tok31) ?_)))
    refine yR (ov_fieldAddr rfl rfl fa31_4 rfl) ?_
    refine yR (ov_load rfl rfl ye ⟨trivial, yn⟩ rfl rfl tok5) ?_
    refine yP (yV rfl rfl rfl Tryz.call32 (c_attack_Check (moveP p m).1 hq (tu p) _ ye htu.1 ht1)) ?_
    refine yM ?_
    refine RO_g1 rfl rfl rfl rfl rfl yd (fun hg => by have hgx := hg; (try simp only [yS] at hgx); exact OpX.v (ov_fieldAddr rfl rfl fa31_0 rfl)) ?_
    refine RO_g1 rfl rfl rfl rfl rfl yd (fun hg => by have hgx := hg; (try simp only [yS] at hgx); exact OpX.v (ov_load rfl (look_gv rfl (bq hg)) ye ⟨trivial, yn⟩ rfl rfl tok5)) ?_
    refine RO_g1 rfl rfl rfl rfl rfl yd (fun hg => by have hgx := hg; (try simp only [yS] at hgx); exact OpX.v (ov_neq rfl (look_gv rfl (bq hg)) rfl)) ?_
    refine RO_g1 rfl rfl rfl rfl rfl yd (fun hg => by have hgx := hg; (try simp only [yS] at hgx); exact OpX.v (ov_move rfl (look_gv rfl (bq hg)))) ?_
    refine RO_g rfl rfl rfl rfl rfl yd (fun hg1 hg2 => by have hgx := hg2; (try simp only [yS] at hgx); exact OpX.v (ov_load rfl rfl ye trivial rfl rfl tok31)) ?_
    refine RO_g rfl rfl rfl rfl rfl yd (fun hg1 hg2 => by have hgx := hg2; (try simp only [yS] at hgx); exact OpX.v (ov_fieldAddr rfl rfl fa31_4 rfl)) ?_
    refine RO_g rfl rfl rfl rfl rfl yd (fun hg1 hg2 => by have hgx := hg2; (try simp only [yS] at hgx); exact OpX.v (ov_load rfl (look_gv rfl (bq2 hg1 hg2)) ye ⟨trivial, yn⟩ rfl rfl tok5)) ?_
    refine RO_g rfl rfl rfl rfl rfl yd (fun hg1 hg2 => by have hgx := hg2; (try simp only [yS] at hgx); exact OpX.v (ov_sub rfl rfl (look_gv rfl (bq2 hg1 hg2)) ya)) ?_
    refine RO_g rfl rfl rfl rfl rfl yd (fun hg1 hg2 => by have hgx := hg2; (try simp only [yS] at hgx); exact yV rfl rfl (looks_cons (look_gv rfl (bq2 hg1 hg2)) (looks_cons (look_gv rfl (bq2 hg1 hg2)) looks_nil)) Tryz.call74 (c_legal_has (moveP p m).1 hq (1 - tu p) _ ye)) ?_
    refine RO_g1 rfl rfl rfl rfl rfl yd (fun hg => by have hgx := hg; (try simp only [yS] at hgx); exact OpX.v (ov_or rfl (look_gv rfl (bq hg)) rfl rfl (fun h => bq2 (bq hg) h))) ?_
    refine yR (ov_and rfl rfl rfl rfl (fun h => bq h)) ?_
    refine RO_nil (W_cond rfl (fun hc4 => ?_) (fun hc4 => ?_))
    ·
     refine w1 ((yA_ ?_))
     refine RO_nil (W_ret ⟨trivial, yb, (ResV_tmp1 rfl rfl ?_)⟩)
     exact xbhy
    ·
     refine W_skip (w1 ((yR (ov_fieldAddr rfl rfl fa31_0 rfl) ?_)))
     refine yR (ov_load rfl rfl ye ⟨trivial, yn⟩ rfl rfl tok5) ?_
     refine yR (ov_neq rfl rfl rfl) ?_
     refine yM ?_
     refine yG (fun hg => OpX.v (ov_load rfl rfl ye trivial rfl rfl tok31)) ?_
     refine yG (fun hg => OpX.v (ov_fieldAddr rfl rfl fa31_4 rfl)) ?_
     refine yG (fun hg => OpX.v (ov_load rfl (look_gv rfl (bq hg)) ye ⟨trivial, yn⟩ rfl rfl tok5)) ?_
     refine yG (fun hg => OpX.v (ov_sub rfl rfl (look_gv rfl (bq hg)) ya)) ?_
     refine yG (fun hg => yV rfl rfl (looks_cons (look_gv rfl (bq hg)) (looks_cons (look_gv rfl (bq hg)) looks_nil)) Tryz.call32 (c_attack_Check (moveP p m).1 hq (1 - tu p) _ ye yo yo)) ?_
     refine yG (fun hg => OpX.v (ov_not rfl (look_gv rfl (bq hg)))) ?_
     refine yR (ov_or rfl rfl rfl rfl (fun h => bq h)) ?_
     refine yA_ ?_
     refine RO_nil (W_ret ⟨trivial, yb, (ResV_tmp1 rfl rfl ?_)⟩)
     exact xbhy
  ·
   refine W_skip (w1 ((yR (ov_fieldAddr rfl rfl fa31_0 rfl) ?_)))
   refine yR (ov_load rfl rfl ye ⟨trivial, yn⟩ rfl rfl tok5) ?_
   refine yR (ov_neq rfl rfl rfl) ?_
   refine yM ?_
   refine yG (fun hg => OpX.v (ov_load rfl rfl ye trivial rfl rfl tok31)) ?_
   refine yG (fun hg => OpX.v (ov_fieldAddr rfl rfl fa31_4 rfl)) ?_
   refine yG (fun hg => OpX.v (ov_load rfl (look_gv rfl (bq hg)) ye ⟨trivial, yn⟩ rfl rfl tok5)) ?_
   refine yG (fun hg => OpX.v (ov_sub rfl rfl (look_gv rfl (bq hg)) ya)) ?_
   refine yG (fun hg => yV rfl rfl (looks_cons (look_gv rfl (bq hg)) (looks_cons (look_gv rfl (bq hg)) looks_nil)) Tryz.call32 (c_attack_Check (moveP p m).1 hq (1 - tu p) _ ye yo yo)) ?_
   refine yG (fun hg => OpX.v (ov_not rfl (look_gv rfl (bq hg)))) ?_
   refine yR (ov_or rfl rfl rfl rfl (fun h => bq h)) ?_
   refine yA_ ?_
   refine RO_nil (W_ret ⟨trivial, yb, (ResV_tmp1 rfl rfl ?_)⟩)
   exact xbhy

theorem c_legal_would_1_1 (m : Mv) (fv : Bool) (bc t1 : Nat) (cf : FuncId) (cv : List Value) (M : List Fact) (hcf : ∀ av w, (callFunc cf av).run Tryz.prog w = .ok (.enter cf av) w) (m1 : Fact.one bc t1 (.func (.func cf) #[] cv.toArray) ∈ M) (hh : Pure Tryz.prog cf (enc moveT m :: cv) M (.bool fv)) : Pure Tryz.prog 78 [enc moveT m, .pointer (some ⟨bc, 0, none⟩)] M (.bool (!fv)) := by
 have hmw := wf_move m
 refine pure_of_W (n := 8) Tryz.func78 rfl rfl yn ?_
 refine w2 (fun w0 => ?_)
 refine LO_l rfl (by decide : 2 < 8) (ol_box (t := moveT) rfl rfl rfl yf (fun b1 => ?_))
 refine zA ?_
 refine LO_nil (w1 ((yR (ov_load1 rfl rfl ye Tryz.isAgg104) ?_)))
 refine yR (ov_load rfl rfl ye trivial rfl rfl tok55) ?_
 refine yP (ov_call  rfl rfl rfl hcf (Pure.frame (A := [_]) hh)) ?_
 refine yR (ov_not rfl rfl) ?_
 refine yA_ ?_
 refine RO_nil (W_ret ⟨trivial, yb, (ResV_tmp1 rfl rfl ?_)⟩)
 rfl

theorem c_legal_would_1 (v : Value) (xs : List (El moveT)) (cf : FuncId) (cv : List Value) (f : Mv → Bool) (M : List Fact) (hcf : ∀ av w, (callFunc cf av).run Tryz.prog w = .ok (.enter cf av) w) (hh : ∀ x, x ∈ (show List Mv from xs) → Pure Tryz.prog cf (enc moveT x :: cv) M (.bool (f x))) (hl : HasList M v moveT xs) (hlen : xs.length ≤ 1000000) : Con Tryz.prog 75 [v, (.func (.func cf) #[] cv.toArray)] M (fun u M' => M' = .row u 55 moveT (xs.filter f) :: M) := by
 have hmw : ∀ m : Mv, wf moveT m := wf_move
 refine con_of_W (n := 9) Tryz.func75 rfl rfl yn ?_
 refine w2 (fun w0 => ?_)
 refine LO_l rfl (by decide : 3 < 9) (ol_box1 rfl rfl rfl (fun b1 => ?_))
 refine zA ?_
 refine LO_nil (w2 (fun w0 => ?_))
 refine zM ?_
 refine LO_l rfl (by decide : 6 < 9) (ol_call (v0 := []) (v2 := []) rfl rfl rfl Tryz.call77 (Con.mono (c_slices_Clone v xs _ (HasList.sub (List.sublist_cons_self _ _) hl) hlen) ?_))
 rintro vc _ rfl
 refine yL (ov_makeFunc rfl rfl rfl) ?_
 refine LO_l rfl (by decide : 8 < 9) (ol_call (v0 := []) (v2 := []) rfl rfl rfl Tryz.call76 (Con.mono (c_slices_DeleteFunc vc xs 78 [.pointer (some ⟨b1, 0, none⟩)] (fun x => !f x) _ Tryz.call78 (fun x hx => c_legal_would_1_1 x (f x) b1 _ cf cv _ hcf (.head _) (Pure.frame (A := [_]) (hh x hx))) hlen) ?_))
 rintro vd _ rfl
 refine zA ?_
 refine LO_nil (W_ret ⟨trivial, _, .row _ 55 moveT (xs.filter f) :: M, (ResV_tmp1 rfl rfl rfl), ?_, rfl⟩)
 rw [← not_not_filter]; exact yb

theorem c_legal_would_2 (p : Pos) (hp : POK p) (m : Mv) (hm : MOK m) (bc t1 : Nat) (M : List Fact) (hT : TAB ∈ M) (m1 : Fact.box bc t1 posT p ∈ M) : Pure Tryz.prog 79 [enc moveT m, ptrv bc posT []] M (.bool (wellP p m)) := by
 obtain ⟨hb, hpw, hvr, htu, hpg, hvr0, htu0⟩ := hp.head
 have hmw := wf_move m
 refine pure_of_W (n := 7) Tryz.func79 rfl rfl yn ?_
 refine w2 (fun w0 => ?_)
 refine LO_l rfl (by decide : 2 < 7) (ol_box (t := moveT) rfl rfl rfl yf (fun b1 => ?_))
 refine zA ?_
 refine LO_nil (w1 ((yR (ov_load rfl rfl ye trivial rfl rfl tok31) ?_)))
 refine yR (ov_load rfl rfl ye trivial rfl rfl tok55) ?_
 refine yP (yV rfl rfl rfl Tryz.call80 (by apply c_legal_Well <;> exact yz)) ?_
 refine yA_ ?_
 refine RO_nil (W_ret ⟨trivial, yb, (ResV_tmp1 rfl rfl ?_)⟩)
 rfl

theorem c_legal_would_3 (p : Pos) (hp : POK p) (m : Mv) (hm : MOK m) (bc t1 : Nat) (M : List Fact) (hT : TAB ∈ M) (m1 : Fact.box bc t1 posT p ∈ M) : Pure Tryz.prog 81 [enc moveT m, ptrv bc posT []] M (.bool (takesP p m)) := by
 obtain ⟨hb, hpw, hvr, htu, hpg, hvr0, htu0⟩ := hp.head
 have hmw := wf_move m
 refine pure_of_W (n := 7) Tryz.func81 rfl rfl yn ?_
 refine w2 (fun w0 => ?_)
 refine LO_l rfl (by decide : 2 < 7) (ol_box (t := moveT) rfl rfl rfl yf (fun b1 => ?_))
 refine zA ?_
 refine LO_nil (w1 ((yR (ov_load rfl rfl ye trivial rfl rfl tok31) ?_)))
 refine yR (ov_load rfl rfl ye trivial rfl rfl tok55) ?_
 refine yP (yV rfl rfl rfl Tryz.call82 (by apply c_pseudo_Takes <;> exact yz)) ?_
 refine yA_ ?_
 refine RO_nil (W_ret ⟨trivial, yb, (ResV_tmp1 rfl rfl ?_)⟩)
 rfl

theorem c_legal_would (p : Pos) (hp : POK p) (M : List Fact) (hT : TAB ∈ M) : Con Tryz.prog 35 [enc posT p] M (fun u M' => M' = .row u 55 moveT (wouldP p) :: M) := by
 obtain ⟨hb, hpw, hvr, htu, hpg, hvr0, htu0⟩ := hp.head
 have hal := allL_len p
 have hfl : ((allL p).filter (wellP p)).length ≤ 1000000 := Nat.le_trans (List.length_filter_le _ _) hal
 refine con_of_W (n := 37) Tryz.func35 rfl rfl yn ?_
 refine w2 (fun w0 => ?_)
 refine LO_l rfl (by decide : 1 < 37) (ol_box (t := posT) rfl rfl rfl yf (fun b1 => ?_))
 refine zA ?_
 refine LO_nil (W_seq (w1 ((yR (ov_fieldAddr rfl rfl fa31_0 rfl) ?_))))
 refine yR (ov_load rfl rfl ye ⟨trivial, yn⟩ rfl rfl tok5) ?_
 refine yR (ov_fieldAddr rfl rfl fa31_4 rfl) ?_
 refine yR (ov_load rfl rfl ye ⟨trivial, yn⟩ rfl rfl tok5) ?_
 refine yP (yV rfl rfl rfl Tryz.call73 (by apply c_rules_Royal <;> exact yz)) ?_
 refine yM ?_
 refine yG (fun hg => OpX.v (ov_load rfl rfl ye trivial rfl rfl tok31)) ?_
 refine yG (fun hg => OpX.v (ov_fieldAddr rfl rfl fa31_4 rfl)) ?_
 refine yG (fun hg => OpX.v (ov_load rfl (look_gv rfl (bq hg)) ye ⟨trivial, yn⟩ rfl rfl tok5)) ?_
 refine yG (fun hg => yV rfl rfl (looks_cons (look_gv rfl (bq hg)) (looks_cons (look_gv rfl (bq hg)) looks_nil)) Tryz.call74 (by apply c_legal_has <;> exact yz)) ?_
 refine yG (fun hg => OpX.v (ov_not rfl (look_gv rfl (bq hg)))) ?_
 refine yR (ov_and rfl rfl rfl rfl (fun h => bq h)) ?_
 refine RO_nil (W_cond rfl (fun hc1 => ?_) (fun hc1 => ?_))
 ·
  refine W_seq (W_row 55 moveT ?_)
  refine W_reg (yA_ ?_)
  refine RO_nil (W_ret ⟨trivial, _, .row _ 55 moveT (wouldP p) :: M, (ResV_tmp1 rfl rfl rfl), ?_, rfl⟩)
  exact xbiy
 ·
  refine W_skip (w1 ((yA_ ?_)))
  refine RO_nil (w2 (fun w0 => ?_))
  refine zM ?_
  refine yL (ov_load rfl rfl ye trivial rfl rfl tok31) ?_
  refine LO_l rfl (by decide : 20 < 37) (ol_call (v0 := []) (v2 := []) rfl rfl rfl Tryz.call46 (Con.mono (by apply c_after_All <;> exact yz) ?_))
  rintro va _ rfl
  refine yL (ov_makeFunc rfl rfl rfl) ?_
  refine LO_l rfl (by decide : 22 < 37) (ol_call  rfl rfl rfl Tryz.call75 (Con.mono (c_legal_would_1 va (allL p) 79 [ptrv b1 posT []] (wellP p) _ Tryz.call79 (fun x hx => c_legal_would_2 p hp x (allL_mok hp hx) b1 _ _ ye ye) (hl_row (.head _)) hal) ?_))
  rintro vk _ rfl
  refine zA ?_
  refine LO_nil (w1 ((yR (ov_makeFunc rfl rfl rfl) ?_)))
  refine yA_ ?_
  refine RO_nil (W_seq (w1 ((yR (ov_fieldAddr rfl rfl fa31_0 rfl) ?_))))
  refine yR (ov_load rfl rfl ye ⟨trivial, yn⟩ rfl rfl tok5) ?_
  refine yR (ov_eql rfl rfl rfl) ?_
  refine yM ?_
  refine gM ?_
  refine gM ?_
  refine yG (fun hg => yV rfl rfl (looks_cons (look_gv rfl (bq hg)) (looks_cons (look_gv rfl (bq hg)) looks_nil)) Tryz.call83 (c_slices_ContainsFunc vk ((allL p).filter (wellP p)) 81 [ptrv b1 posT []] (takesP p) _ Tryz.call81 (fun x hx => c_legal_would_3 p hp x (allL_mok hp (List.mem_filter.1 hx).1) b1 _ _ ye ye) (hl_row (.head _)) hfl)) ?_
  refine yR (ov_and rfl rfl rfl rfl (fun h => bq h)) ?_
  refine RO_nil (W_cond rfl (fun hc2 => ?_) (fun hc2 => ?_))
  ·
   refine W_regl (fun w0 => ?_)
   refine zM ?_
   refine zM ?_
   refine zM ?_
   refine LO_l rfl (by decide : 35 < 37) (ol_call  rfl rfl rfl Tryz.call75 (Con.mono (c_legal_would_1 vk ((allL p).filter (wellP p)) 81 [ptrv b1 posT []] (takesP p) _ Tryz.call81 (fun x hx => c_legal_would_3 p hp x (allL_mok hp (List.mem_filter.1 hx).1) b1 _ _ ye ye) (hl_row (.head _)) hfl) ?_))
   rintro vt _ rfl
   refine zA ?_
   refine LO_nil (w1 ((yM ?_)))
   refine yA_ ?_
   refine RO_nil (W_ret ⟨trivial, _, .row _ 55 moveT (wouldP p) :: M, (ResV_tmp1 rfl rfl rfl), ?_, rfl⟩)
   exact xbiy
  ·
   refine W_skip (w1 ((yM ?_)))
   refine yA_ ?_
   refine RO_nil (W_ret ⟨trivial, _, .row _ 55 moveT (wouldP p) :: M, (ResV_tmp1 rfl rfl rfl), ?_, rfl⟩)
   exact xbiy
end Go.Kw
set_option linter.unusedVariables false
namespace Go.Kw
open Go.Proofs
theorem tok59 : TyOK Tryz.prog 59 .fn := ⟨Tryz.isAgg59, Tryz.sizeOf59, Tryz.zeroValue59⟩
theorem tok100 : TyOK Tryz.prog 100 (.st [.fn]) := ⟨Tryz.isAgg100, Tryz.sizeOf100, Tryz.zeroValue100⟩
theorem tok101 : TyOK Tryz.prog 101 (.ar 9 (.st [.fn])) := ⟨Tryz.isAgg101, Tryz.sizeOf101, Tryz.zeroValue101⟩
abbrev fs99 : List Ty := [.fn]
theorem bl100 : BuildOK Tryz.prog 100 fs99 := ⟨_, _, rfl, rfl, Tryz.underlying100, by kernel_rfl⟩
theorem bl101 : BuildOKa Tryz.prog 101 9 (.st [.fn]) := ⟨_, _, _, rfl, rfl, Tryz.underlying101, rfl, rfl⟩
theorem fa100_0 : FA Tryz.prog 100 0 0 := fun a w => by simp [Instr.fieldAt, Tryz.runUnderlying100, Instr.sureAddr, fieldPlace, Tryz.sizeOf59]

def blownP (p : Pos) : Res := if (!hasK p (tu p)) = true then winsP (1 - tu p) 6 else zero resT
def noMen (p : Pos) (c : Int) : Bool := decide (ofB p c 0 = 0#64)
def hordeP (p : Pos) : Res := if noMen p 0 = true then winsP 1 8 else zero resT
def abL (a b : Int) (i : Nat) : Int := ([a, b] : List Int).getD i 0
theorem abL_rng {a b : Int} (i : Nat) (a0 : 0 ≤ a) (a1 : a ≤ 1) (b0 : 0 ≤ b) (b1 : b ≤ 1) : 0 ≤ abL a b i ∧ abL a b i ≤ 1 := by
  match i with
  | 0 => exact ⟨a0, a1⟩
  | 1 => exact ⟨b0, b1⟩
  | n + 2 => exact ⟨by show (0 : Int) ≤ 0; decide, by show (0 : Int) ≤ 1; decide⟩
theorem ab_step {f : Int → Bool} {a b : Int} {i : Nat} (h : ∀ j, j < i → f (abL a b j) = false) (hi : f (abL a b i) = false) : ∀ j, j < i + 1 → f (abL a b j) = false := fun j hj => by
  rcases Nat.lt_or_ge j i with h' | h'
  · exact h j h'
  · rw [show j = i by omega]; exact hi
def first2 (a b why : Int) (f : Int → Bool) : Res := if f a = true then winsP a why else if f b = true then winsP b why else zero resT
theorem first_hit {f : Int → Bool} {a b why : Int} {i : Nat} (h : ∀ j, j < i → f (abL a b j) = false) (hi : i < 2) (hf : f (abL a b i) = true) : first2 a b why f = winsP (abL a b i) why := by
  unfold first2
  match i, hi with
  | 0, _ => rw [if_pos (show f a = true from hf)]; rfl
  | 1, _ => rw [if_neg (by rw [show f a = false from h 0 yo]; simp), if_pos (show f b = true from hf)]; rfl
theorem first_end {f : Int → Bool} {a b why : Int} {i : Nat} (h : ∀ j, j < i → f (abL a b j) = false) (hi : 2 ≤ i) : first2 a b why f = zero resT := by
  unfold first2
  rw [if_neg (by rw [show f a = false from h 0 yo]; simp), if_neg (by rw [show f b = false from h 1 yo]; simp)]
def threeCk (p : Pos) (c : Int) : Bool := decide (3 ≤ ckAt p c)
def hillAt (p : Pos) (c : Int) : Bool := decide (0 ≤ firstB (ofB p c 6)) && decide (andI (shrI 103481868288 ((BitVec.ofInt 64 (firstB (ofB p c 6))).toNat : Int)) 1 = 1)
def goalAt (p : Pos) (c : Int) : Bool := decide (56 ≤ firstB (ofB p c 6))
def comesP (kg : Int) (m : Mv) : Bool := decide (mF m = kg) && decide (56 ≤ mT m)
def goalR (p : Pos) : Res := if (goalAt p 0 && goalAt p 1) = true then ((3 : Int), (6 : Int), ()) else if goalAt p 1 = true then winsP 1 6 else if (!goalAt p 0) = true then zero resT
  else if decide (tu p = 0) = true then winsP 0 6 else if decide (0 ≤ idxM (comesP (firstB (ofB p 1 6))) (wouldP p) 0) = true then zero resT else winsP 0 6
theorem wouldP_mem {p : Pos} {m : Mv} (h : m ∈ wouldP p) : m ∈ allL p := by
  unfold wouldP at h
  split at h
  · cases h
  · split at h
    · exact (List.mem_filter.1 (List.mem_filter.1 h).1).1
    · exact (List.mem_filter.1 h).1
theorem wouldP_len (p : Pos) : (wouldP p).length ≤ 1000000 := by
  have hal := allL_len p
  unfold wouldP; split
  · exact Nat.zero_le _
  · split
    · exact Nat.le_trans (List.length_filter_le _ _) (Nat.le_trans (List.length_filter_le _ _) hal)
    · exact Nat.le_trans (List.length_filter_le _ _) hal
def winT : List (El (.st [.fn])) := [((none : FnV), ()), ((none : FnV), ()), ((none : FnV), ()), ((some (141, [], []) : FnV), ()), ((some (145, [], []) : FnV), ()), ((some (142, [], []) : FnV), ()), ((some (143, [], []) : FnV), ()), ((some (144, [], []) : FnV), ()), ((some (146, [], []) : FnV), ())]
theorem winT_wf : wf (.ar 9 (.st [.fn])) winT := ⟨rfl, fun _ _ => ⟨trivial, trivial⟩⟩
def winAt (v : Int) : El (.st [.fn]) := winT.getD v.toNat (zero (.st [.fn]))
theorem winAt_wf (v : Int) : wf (.st [.fn]) (winAt v) := ⟨trivial, trivial⟩
def wonBy (p : Pos) : Res := if vr p = 3 then blownP p else if vr p = 4 then first2 (tu p) (1 - tu p) 8 (noMen p) else if vr p = 5 then first2 (1 - tu p) (tu p) 7 (threeCk p) else if vr p = 6 then first2 (1 - tu p) (tu p) 6 (hillAt p)
  else if vr p = 7 then hordeP p else if vr p = 8 then goalR p else zero resT
def wonP (p : Pos) : Res := if (decide (9 ≤ vr p) || decide (1 < tu p)) = true then zero resT else wonBy p
theorem won_a {p : Pos} (h : (decide (9 ≤ vr p) || decide (1 < tu p)) = true) : wonP p = zero resT := by unfold wonP; rw [if_pos h]
theorem won_b {p : Pos} (h : (decide (9 ≤ vr p) || decide (1 < tu p)) = false) : wonP p = wonBy p := by unfold wonP; rw [if_neg xasy]
theorem won_c {p : Pos} (h0 : 0 ≤ vr p) (h9 : vr p < 9) (h : (decide (9 ≤ vr p) || decide (1 < tu p)) = false) (h2 : (winAt (vr p)).1.isSome = false) : wonP p = zero resT := by
  rw [won_b h]
  unfold wonBy
  rcases fin9 h0 h9 with e | e | e | e | e | e | e | e | e <;> rw [e] at h2 ⊢ <;> first | rfl | cases h2
theorem wonBy_3 {p : Pos} (e : vr p = 3) : wonBy p = blownP p := by unfold wonBy; rw [if_pos e]
theorem wonBy_4 {p : Pos} (e : vr p = 4) : wonBy p = first2 (tu p) (1 - tu p) 8 (noMen p) := by unfold wonBy; rw [if_neg yo, if_pos e]
theorem wonBy_5 {p : Pos} (e : vr p = 5) : wonBy p = first2 (1 - tu p) (tu p) 7 (threeCk p) := by unfold wonBy; rw [if_neg yo, if_neg yo, if_pos e]
theorem wonBy_6 {p : Pos} (e : vr p = 6) : wonBy p = first2 (1 - tu p) (tu p) 6 (hillAt p) := by unfold wonBy; rw [if_neg yo, if_neg yo, if_neg yo, if_pos e]
theorem wonBy_7 {p : Pos} (e : vr p = 7) : wonBy p = hordeP p := by unfold wonBy; rw [if_neg yo, if_neg yo, if_neg yo, if_neg yo, if_pos e]
theorem wonBy_8 {p : Pos} (e : vr p = 8) : wonBy p = goalR p := by unfold wonBy; rw [if_neg yo, if_neg yo, if_neg yo, if_neg yo, if_neg yo, if_pos e]
def legalL (p : Pos) : List Mv := if (!decide ((wonP p).1 = 0)) = true then [] else wouldP p

theorem c_legal_blown (p : Pos) (hp : POK p) (M : List Fact) (hT : TAB ∈ M) (ht : tu p ≤ 1) : Pure Tryz.prog 141 [enc posT p] M (enc resT (blownP p)) := by
 obtain ⟨hb, hpw, hvr, htu, hpg, hvr0, htu0⟩ := hp.head
 have ht2 := ht
 simp only [tu] at ht2
 refine pure_of_W (n := 13) Tryz.func141 rfl rfl yn ?_
 refine w2 (fun w0 => ?_)
 refine LO_l rfl (by decide : 1 < 13) (ol_box (t := posT) rfl rfl rfl yf (fun b1 => ?_))
 refine LO_l rfl (by decide : 2 < 13) (ol_alloc (t := resT) rfl tok58 yf (fun b2 => ?_))
 refine LO_nil (W_seq (w1 ((yR (ov_load rfl rfl ye trivial rfl rfl tok31) ?_))))
 refine yR (ov_fieldAddr rfl rfl fa31_4 rfl) ?_
 refine yR (ov_load rfl rfl ye ⟨trivial, yn⟩ rfl rfl tok5) ?_
 refine yP (yV rfl rfl rfl Tryz.call74 (by apply c_legal_has <;> exact yz)) ?_
 refine yR (ov_not rfl rfl) ?_
 refine RO_nil (W_cond rfl (fun hc1 => ?_) (fun hc1 => ?_))
 ·
  refine w2 (fun w0 => ?_)
  refine yL (ov_fieldAddr rfl rfl fa31_4 rfl) ?_
  refine yL (ov_load rfl rfl ye ⟨trivial, yn⟩ rfl rfl tok5) ?_
  refine yL (ov_sub rfl rfl rfl ya) ?_
  refine yQ (yV rfl rfl rfl Tryz.call184 (by apply c_legal_wins <;> exact yz)) ?_
  refine LO_l rfl trivial (ol_sw0 rfl rfl rfl rfl yf tok58 ?_)
  refine LO_nil (W_ret ⟨trivial, yb, (ResV_cell rfl rfl ye rfl tok58 ?_)⟩)
  first | exact val_enc (show blownP p = _ from if_pos hc1).symm | exact val_enc (show blownP p = _ from if_neg (Bool.eq_false_iff.1 hc1)).symm
 ·
  refine W_skip (w2 (fun w0 => ?_))
  refine yL (ov_build (fs := fs57) (ds := []) rfl rfl bl58 trivial rfl) ?_
  refine LO_l rfl trivial (ol_sw0 rfl rfl rfl rfl yf tok58 ?_)
  refine LO_nil (W_ret ⟨trivial, yb, (ResV_cell rfl rfl ye rfl tok58 ?_)⟩)
  first | exact val_enc (show blownP p = _ from if_pos hc1).symm | exact val_enc (show blownP p = _ from if_neg (Bool.eq_false_iff.1 hc1)).symm

theorem c_legal_horde (p : Pos) (hp : POK p) (M : List Fact) : Pure Tryz.prog 144 [enc posT p] M (enc resT (hordeP p)) := by
 obtain ⟨hb, hpw, hvr, htu, hpg, hvr0, htu0⟩ := hp.head
 refine pure_of_W (n := 8) Tryz.func144 rfl rfl yn ?_
 refine w2 (fun w0 => ?_)
 refine LO_l rfl (by decide : 1 < 8) (ol_box (t := posT) rfl rfl rfl yf (fun b1 => ?_))
 refine LO_l rfl (by decide : 2 < 8) (ol_alloc (t := resT) rfl tok58 yf (fun b2 => ?_))
 refine LO_nil (W_seq (w1 ((yR (ov_load rfl rfl ye trivial rfl rfl tok31) ?_))))
 refine yP (yV rfl rfl rfl Tryz.call117 xavy) ?_
 refine yR (ov_eql64 (b := 0#64) rfl rfl rfl) ?_
 refine RO_nil (W_cond rfl (fun hc1 => ?_) (fun hc1 => ?_))
 ·
  refine w2 (fun w0 => ?_)
  refine yQ (yV rfl rfl rfl Tryz.call184 (by apply c_legal_wins <;> exact yz)) ?_
  refine LO_l rfl trivial (ol_sw0 rfl rfl rfl rfl yf tok58 ?_)
  refine LO_nil (W_ret ⟨trivial, yb, (ResV_cell rfl rfl ye rfl tok58 ?_)⟩)
  first | exact val_enc (show hordeP p = _ from if_pos hc1).symm | exact val_enc (show hordeP p = _ from if_neg (Bool.eq_false_iff.1 hc1)).symm
 ·
  refine W_skip (w2 (fun w0 => ?_))
  refine yL (ov_build (fs := fs57) (ds := []) rfl rfl bl58 trivial rfl) ?_
  refine LO_l rfl trivial (ol_sw0 rfl rfl rfl rfl yf tok58 ?_)
  refine LO_nil (W_ret ⟨trivial, yb, (ResV_cell rfl rfl ye rfl tok58 ?_)⟩)
  first | exact val_enc (show hordeP p = _ from if_pos hc1).symm | exact val_enc (show hordeP p = _ from if_neg (Bool.eq_false_iff.1 hc1)).symm

theorem c_legal_first (p : Pos) (hp : POK p) (why : Int) (cf : FuncId) (cv : List Value) (f : Int → Bool) (M : List Fact) (ht : tu p ≤ 1) (hcf : ∀ av w, (callFunc cf av).run Tryz.prog w = .ok (.enter cf av) w) (hh : ∀ c, 0 ≤ c → c ≤ 1 → Pure Tryz.prog cf (.int .u8 c :: cv) M (.bool (f c))) : Pure Tryz.prog 185 [enc posT p, .int .u8 why, (.func (.func cf) #[] cv.toArray)] M (enc resT (first2 (1 - tu p) (tu p) why f)) := by
 obtain ⟨hb, hpw, hvr, htu, hpg, hvr0, htu0⟩ := hp.head
 have ht2 := ht
 simp only [tu] at ht2
 refine pure_of_W (n := 28) Tryz.func185 rfl rfl yn ?_
 refine w2 (fun w0 => ?_)
 refine LO_l rfl (by decide : 3 < 28) (ol_box (t := posT) rfl rfl rfl yf (fun b1 => ?_))
 refine LO_l rfl (by decide : 6 < 28) (ol_alloc (t := resT) rfl tok58 yf (fun b2 => ?_))
 refine LO_nil (W_seq (w2 (fun w0 => ?_)))
 refine yL (ov_fieldAddr rfl rfl fa31_4 rfl) ?_
 refine yL (ov_load rfl rfl ye ⟨trivial, yn⟩ rfl rfl tok5) ?_
 refine yL (ov_sub rfl rfl rfl ya) ?_
 refine yL (ov_fieldAddr rfl rfl fa31_4 rfl) ?_
 refine yL (ov_load rfl rfl ye ⟨trivial, yn⟩ rfl rfl tok5) ?_
 refine LO_l rfl (by decide : 14 < 28) (ol_buildSlice (t := u8) (xs := [_, _]) rfl rfl rfl Tryz.underlying43 tok5 xaey yd yd yd (fun v1 => ?_))
 refine yL (ov_len rfl rfl xaby Tryz.underlying43) ?_
 refine zM ?_
 refine LO_nil (W_block (W_loop (σ := Nat) (fun s5 => s5 ≤ 2 ∧ ∀ j, j < s5 → f (abL (1 - tu p) (tu p) j) = false) (fun s5 => [(1, .int .u8 why), (2, (.func (.func cf) #[] cv.toArray)), (6, ptrv b2 resT []), (14, v1), (15, .int .i64 (2 : Nat)), (16, .int .i64 (s5 : Int))]) (fun s5 => .row v1 5 u8 _ :: .box b2 58 resT (zero resT) :: .box b1 31 posT _ :: M) (fun s5 => 2 - s5) (0) ⟨by omega, fun j hj => absurd hj yo⟩ ⟨rfl, rfl, rfl, rfl, rfl, rfl, trivial⟩ yb ?_))
 rintro i ⟨hI, hH⟩
 refine w1 ((yR (ov_lss rfl rfl rfl) ?_))
 refine RO_nil (W_seq (W_cond rfl (fun hc1 => ?_) (fun hc1 => ?_)))
 ·
  try simp only [yS] at hc1
  have hxr : @LE.le Int _ 0 (([1 - p.2.2.2.2.1, p.2.2.2.2.1] : List (El u8)).getD ((i : Nat) : Int).toNat (zero u8)) ∧ @LE.le Int _ (([1 - p.2.2.2.2.1, p.2.2.2.2.1] : List (El u8)).getD ((i : Nat) : Int).toNat (zero u8)) 1 := abL_rng (a := 1 - tu p) (b := tu p) i yo yo yo yo
  have hix : ((i : Nat) : Int).toNat < ([1 - p.2.2.2.2.1, p.2.2.2.2.1] : List (El u8)).length := by show ((i : Nat) : Int).toNat < 2; omega
  refine W_skip (W_seq (W_block (w1 ((yR (ov_indexAddr_sl (t := u8) rfl rfl xaby rfl Tryz.underlying43 Tryz.sizeOf5 ya ya) ?_)))))
  refine yR (ov_load_e (t := u8) (p := []) rfl rfl xaby ya trivial rfl rfl tok5) ?_
  refine yA_ ?_
  refine RO_nil (w1 ((yM ?_)))
  refine yM ?_
  refine yP (ov_call  rfl rfl rfl hcf (Pure.frame (A := [_, _, _]) (hh _ hxr.1 hxr.2))) ?_
  refine RO_nil (W_cond rfl (fun hc2 => ?_) (fun hc2 => ?_))
  ·
   refine w2 (fun w0 => ?_)
   refine zM ?_
   refine zM ?_
   refine yQ (yV rfl rfl rfl Tryz.call184 (c_legal_wins _ why _ hxr.1 hxr.2)) ?_
   refine LO_l rfl trivial (ol_sw1 rfl rfl rfl rfl yf tok58 ?_)
   refine LO_nil (W_ret ⟨trivial, yb, (ResV_cell rfl rfl ye rfl tok58 ?_)⟩)
   first | exact val_enc (first_hit hH yo hc2).symm | exact val_enc (first_end hH yo).symm
  ·
   refine W_skip (W_reg (yR (ov_add rfl rfl rfl ya) ?_))
   refine yM ?_
   refine RO_nil ?_
   exact ⟨i + 1, yo, ⟨by omega, ab_step hH hc2⟩, ⟨rfl, rfl, rfl, rfl, rfl, rfl, trivial⟩, yb⟩
 ·
  try simp only [yS] at hc1
  refine W_exit (w2 (fun w0 => ?_))
  refine yL (ov_build (fs := fs57) (ds := []) rfl rfl bl58 trivial rfl) ?_
  refine LO_l rfl trivial (ol_sw1 rfl rfl rfl rfl yf tok58 ?_)
  refine LO_nil (W_ret ⟨trivial, yb, (ResV_cell rfl rfl ye rfl tok58 ?_)⟩)
  first | exact val_enc (first_hit hH yo hc2).symm | exact val_enc (first_end hH yo).symm

theorem c_legal_bare (p : Pos) (hp : POK p) (M : List Fact) (ht : tu p ≤ 1) : Pure Tryz.prog 145 [enc posT p] M (enc resT (first2 (tu p) (1 - tu p) 8 (noMen p))) := by
 obtain ⟨hb, hpw, hvr, htu, hpg, hvr0, htu0⟩ := hp.head
 have ht2 := ht
 simp only [tu] at ht2
 refine pure_of_W (n := 24) Tryz.func145 rfl rfl yn ?_
 refine w2 (fun w0 => ?_)
 refine LO_l rfl (by decide : 1 < 24) (ol_box (t := posT) rfl rfl rfl yf (fun b1 => ?_))
 refine LO_l rfl (by decide : 2 < 24) (ol_alloc (t := resT) rfl tok58 yf (fun b2 => ?_))
 refine LO_nil (W_seq (w2 (fun w0 => ?_)))
 refine yL (ov_fieldAddr rfl rfl fa31_4 rfl) ?_
 refine yL (ov_load rfl rfl ye ⟨trivial, yn⟩ rfl rfl tok5) ?_
 refine yL (ov_fieldAddr rfl rfl fa31_4 rfl) ?_
 refine yL (ov_load rfl rfl ye ⟨trivial, yn⟩ rfl rfl tok5) ?_
 refine yL (ov_sub rfl rfl rfl ya) ?_
 refine LO_l rfl (by decide : 10 < 24) (ol_buildSlice (t := u8) (xs := [_, _]) rfl rfl rfl Tryz.underlying43 tok5 xaey yd yd yd (fun v1 => ?_))
 refine yL (ov_len rfl rfl xaby Tryz.underlying43) ?_
 refine zM ?_
 refine LO_nil (W_block (W_loop (σ := Nat) (fun s5 => s5 ≤ 2 ∧ ∀ j, j < s5 → (noMen p) (abL (tu p) (1 - tu p) j) = false) (fun s5 => [(1, ptrv b1 posT []), (2, ptrv b2 resT []), (10, v1), (11, .int .i64 (2 : Nat)), (12, .int .i64 (s5 : Int))]) (fun s5 => .row v1 5 u8 _ :: .box b2 58 resT (zero resT) :: .box b1 31 posT _ :: M) (fun s5 => 2 - s5) (0) ⟨by omega, fun j hj => absurd hj yo⟩ ⟨rfl, rfl, rfl, rfl, rfl, trivial⟩ yb ?_))
 rintro i ⟨hI, hH⟩
 refine w1 ((yR (ov_lss rfl rfl rfl) ?_))
 refine RO_nil (W_seq (W_cond rfl (fun hc1 => ?_) (fun hc1 => ?_)))
 ·
  try simp only [yS] at hc1
  have hxr : @LE.le Int _ 0 (([p.2.2.2.2.1, 1 - p.2.2.2.2.1] : List (El u8)).getD ((i : Nat) : Int).toNat (zero u8)) ∧ @LE.le Int _ (([p.2.2.2.2.1, 1 - p.2.2.2.2.1] : List (El u8)).getD ((i : Nat) : Int).toNat (zero u8)) 1 := abL_rng (a := tu p) (b := 1 - tu p) i yo yo yo yo
  have hix : ((i : Nat) : Int).toNat < ([p.2.2.2.2.1, 1 - p.2.2.2.2.1] : List (El u8)).length := by show ((i : Nat) : Int).toNat < 2; omega
  refine W_skip (W_seq (W_block (w1 ((yR (ov_indexAddr_sl (t := u8) rfl rfl xaby rfl Tryz.underlying43 Tryz.sizeOf5 ya ya) ?_)))))
  refine yR (ov_load_e (t := u8) (p := []) rfl rfl xaby ya trivial rfl rfl tok5) ?_
  refine yA_ ?_
  refine RO_nil (w1 ((yR (ov_load rfl rfl ye trivial rfl rfl tok31) ?_)))
  refine yM ?_
  refine yP (yV rfl rfl rfl Tryz.call117 xavy) ?_
  refine yR (ov_eql64 (b := 0#64) rfl rfl rfl) ?_
  refine RO_nil (W_cond rfl (fun hc2 => ?_) (fun hc2 => ?_))
  ·
   refine w2 (fun w0 => ?_)
   refine zM ?_
   refine yQ (yV rfl rfl rfl Tryz.call184 (c_legal_wins _ 8 _ hxr.1 hxr.2)) ?_
   refine LO_l rfl trivial (ol_sw1 rfl rfl rfl rfl yf tok58 ?_)
   refine LO_nil (W_ret ⟨trivial, yb, (ResV_cell rfl rfl ye rfl tok58 ?_)⟩)
   first | exact val_enc (first_hit hH yo hc2).symm | exact val_enc (first_end hH yo).symm
  ·
   refine W_skip (W_reg (yR (ov_add rfl rfl rfl ya) ?_))
   refine yM ?_
   refine RO_nil ?_
   exact ⟨i + 1, yo, ⟨by omega, ab_step hH hc2⟩, ⟨rfl, rfl, rfl, rfl, rfl, trivial⟩, yb⟩
 ·
  try simp only [yS] at hc1
  refine W_exit (w2 (fun w0 => ?_))
  refine yL (ov_build (fs := fs57) (ds := []) rfl rfl bl58 trivial rfl) ?_
  refine LO_l rfl trivial (ol_sw1 rfl rfl rfl rfl yf tok58 ?_)
  refine LO_nil (W_ret ⟨trivial, yb, (ResV_cell rfl rfl ye rfl tok58 ?_)⟩)
  first | exact val_enc (first_hit hH yo hc2).symm | exact val_enc (first_end hH yo).symm

theorem c_legal_checks_1 (p : Pos) (hp : POK p) (c : Int) (bc t1 : Nat) (M : List Fact) (m1 : Fact.box bc t1 posT p ∈ M) (h0 : 0 ≤ c) (h1 : c ≤ 1) : Pure Tryz.prog 186 [.int .u8 c, ptrv bc posT []] M (.bool (threeCk p c)) := by
 obtain ⟨hb, hpw, hvr, htu, hpg, hvr0, htu0⟩ := hp.head
 refine pure_of_W (n := 9) Tryz.func186 rfl rfl yn ?_
 refine w1 ((yA_ ?_))
 refine RO_nil (w1 ((yM ?_)))
 refine yR (ov_fieldAddr rfl rfl fa31_7 rfl) ?_
 refine yR (ov_indexAddr rfl rfl rfl Tryz.underlying29 rfl Tryz.sizeOf5 ya ya) ?_
 refine yR (ov_load rfl rfl ye ⟨⟨trivial, yn⟩, (tn ya ya)⟩ rfl rfl tok5) ?_
 refine yR (ov_geq rfl rfl rfl) ?_
 refine yA_ ?_
 refine RO_nil (W_ret ⟨trivial, yb, (ResV_tmp1 rfl rfl ?_)⟩)
 rfl

theorem c_legal_onHill_1 (p : Pos) (hp : POK p) (c : Int) (bc t1 : Nat) (M : List Fact) (hT : TAB ∈ M) (m1 : Fact.box bc t1 posT p ∈ M) (h0 : 0 ≤ c) (h1 : c ≤ 1) : Pure Tryz.prog 187 [.int .u8 c, ptrv bc posT []] M (.bool (hillAt p c)) := by
 obtain ⟨hb, hpw, hvr, htu, hpg, hvr0, htu0⟩ := hp.head
 refine pure_of_W (n := 17) Tryz.func187 rfl rfl yn ?_
 refine w1 ((yA_ ?_))
 refine RO_nil (w1 ((yR (ov_load rfl rfl ye trivial rfl rfl tok31) ?_)))
 refine yM ?_
 refine yP (yV rfl rfl rfl Tryz.call115 (by apply c_board_Find <;> exact yz)) ?_
 refine yA_ ?_
 refine RO_nil (w1 ((yM ?_)))
 refine yR (ov_geq rfl rfl rfl) ?_
 refine yM ?_
 refine gM ?_
 refine yG (fun hg => OpX.v (ov_conv64 rfl (look_gv rfl (bq hg)) Tryz.underlying3 Tryz.underlying111)) ?_
 refine yG (fun hg => OpX.v (ov_shrI rfl rfl (look_gv rfl (bq hg)) ya)) ?_
 refine yG (fun hg => OpX.v (ov_andI rfl (look_gv rfl (bq hg)) rfl)) ?_
 refine yG (fun hg => OpX.v (ov_eql rfl (look_gv rfl (bq hg)) rfl)) ?_
 refine yR (ov_and rfl rfl rfl rfl (fun h => bq h)) ?_
 refine yA_ ?_
 refine RO_nil (W_ret ⟨trivial, yb, (ResV_tmp1 rfl rfl ?_)⟩)
 rfl

theorem c_legal_goal_1 (p : Pos) (hp : POK p) (c : Int) (bc t1 : Nat) (M : List Fact) (hT : TAB ∈ M) (m1 : Fact.box bc t1 posT p ∈ M) : Pure Tryz.prog 188 [.int .u8 c, ptrv bc posT []] M (.bool (goalAt p c)) := by
 obtain ⟨hb, hpw, hvr, htu, hpg, hvr0, htu0⟩ := hp.head
 refine pure_of_W (n := 8) Tryz.func188 rfl rfl yn ?_
 refine w1 ((yA_ ?_))
 refine RO_nil (w1 ((yR (ov_load rfl rfl ye trivial rfl rfl tok31) ?_)))
 refine yM ?_
 refine yP (yV rfl rfl rfl Tryz.call115 (by apply c_board_Find <;> exact yz)) ?_
 refine yR (ov_geq rfl rfl rfl) ?_
 refine yA_ ?_
 refine RO_nil (W_ret ⟨trivial, yb, (ResV_tmp1 rfl rfl ?_)⟩)
 rfl

theorem c_legal_goal_2 (m : Mv) (hm : MOK m) (kg : Int) (bc t1 : Nat) (M : List Fact) (m1 : Fact.box bc t1 i64 kg ∈ M) : Pure Tryz.prog 189 [enc moveT m, ptrv bc i64 []] M (.bool (comesP kg m)) := by
 have hmF := hm.f
 have hmT := hm.t
 have hmP := hm.p
 have hmD := hm.d
 have hmF0 := hm.f
 have hmT0 := hm.t
 have hmP0 := hm.p
 have hmD0 := hm.d
 simp only [mF] at hmF0
 simp only [mT] at hmT0
 simp only [mP] at hmP0
 simp only [mD] at hmD0
 refine pure_of_W (n := 14) Tryz.func189 rfl rfl yn ?_
 refine w2 (fun w0 => ?_)
 refine LO_l rfl (by decide : 2 < 14) (ol_box (t := moveT) rfl rfl rfl yf (fun b1 => ?_))
 refine zA ?_
 refine LO_nil (w1 ((yR (ov_fieldAddr rfl rfl fa55_0 rfl) ?_)))
 refine yR (ov_load rfl rfl ye ⟨trivial, yn⟩ rfl rfl tok26) ?_
 refine yR (ov_convn rfl rfl Tryz.underlying26 Tryz.underlying3 ya) ?_
 refine yR (ov_load rfl rfl ye trivial rfl rfl tok3) ?_
 refine yR (ov_eql rfl rfl rfl) ?_
 refine yM ?_
 refine yG (fun hg => OpX.v (ov_fieldAddr rfl rfl fa55_1 rfl)) ?_
 refine yG (fun hg => OpX.v (ov_load rfl (look_gv rfl (bq hg)) ye ⟨trivial, yn⟩ rfl rfl tok26)) ?_
 refine yG (fun hg => OpX.v (ov_geq rfl (look_gv rfl (bq hg)) rfl)) ?_
 refine yR (ov_and rfl rfl rfl rfl (fun h => bq h)) ?_
 refine yA_ ?_
 refine RO_nil (W_ret ⟨trivial, yb, (ResV_tmp1 rfl rfl ?_)⟩)
 rfl

theorem c_legal_checks (p : Pos) (hp : POK p) (M : List Fact) (ht : tu p ≤ 1) : Pure Tryz.prog 142 [enc posT p] M (enc resT (first2 (1 - tu p) (tu p) 7 (threeCk p))) := by
 obtain ⟨hb, hpw, hvr, htu, hpg, hvr0, htu0⟩ := hp.head
 refine pure_of_W (n := 6) Tryz.func142 rfl rfl yn ?_
 refine w2 (fun w0 => ?_)
 refine LO_l rfl (by decide : 1 < 6) (ol_box (t := posT) rfl rfl rfl yf (fun b1 => ?_))
 refine LO_l rfl (by decide : 2 < 6) (ol_alloc (t := resT) rfl tok58 yf (fun b2 => ?_))
 refine LO_nil (w2 (fun w0 => ?_))
 refine yL (ov_load rfl rfl ye trivial rfl rfl tok31) ?_
 refine yL (ov_makeFunc rfl rfl rfl) ?_
 refine yQ (yV rfl rfl rfl Tryz.call185 (c_legal_first p hp 7 186 [ptrv b1 posT []] (threeCk p) _ ht Tryz.call186 (fun c h0 h1 => c_legal_checks_1 p hp c b1 _ _ ye h0 h1))) ?_
 refine LO_l rfl trivial (ol_sw0 rfl rfl rfl rfl yf tok58 ?_)
 refine LO_nil (W_ret ⟨trivial, yb, (ResV_cell rfl rfl ye rfl tok58 ?_)⟩)
 rfl

theorem c_legal_onHill (p : Pos) (hp : POK p) (M : List Fact) (hT : TAB ∈ M) (ht : tu p ≤ 1) : Pure Tryz.prog 143 [enc posT p] M (enc resT (first2 (1 - tu p) (tu p) 6 (hillAt p))) := by
 obtain ⟨hb, hpw, hvr, htu, hpg, hvr0, htu0⟩ := hp.head
 refine pure_of_W (n := 6) Tryz.func143 rfl rfl yn ?_
 refine w2 (fun w0 => ?_)
 refine LO_l rfl (by decide : 1 < 6) (ol_box (t := posT) rfl rfl rfl yf (fun b1 => ?_))
 refine LO_l rfl (by decide : 2 < 6) (ol_alloc (t := resT) rfl tok58 yf (fun b2 => ?_))
 refine LO_nil (w2 (fun w0 => ?_))
 refine yL (ov_load rfl rfl ye trivial rfl rfl tok31) ?_
 refine yL (ov_makeFunc rfl rfl rfl) ?_
 refine yQ (yV rfl rfl rfl Tryz.call185 (c_legal_first p hp 6 187 [ptrv b1 posT []] (hillAt p) _ ht Tryz.call187 (fun c h0 h1 => c_legal_onHill_1 p hp c b1 _ _ ye ye h0 h1))) ?_
 refine LO_l rfl trivial (ol_sw0 rfl rfl rfl rfl yf tok58 ?_)
 refine LO_nil (W_ret ⟨trivial, yb, (ResV_cell rfl rfl ye rfl tok58 ?_)⟩)
 rfl

theorem c_legal_goal (p : Pos) (hp : POK p) (M : List Fact) (hT : TAB ∈ M) : Pure Tryz.prog 146 [enc posT p] M (enc resT (goalR p)) := by
 obtain ⟨hb, hpw, hvr, htu, hpg, hvr0, htu0⟩ := hp.head
 have hwl : (wouldP p).length ≤ 1000000 := wouldP_len p
 refine pure_of_W (n := 40) Tryz.func146 rfl rfl yn ?_
 refine w2 (fun w0 => ?_)
 refine LO_l rfl (by decide : 1 < 40) (ol_box (t := posT) rfl rfl rfl yf (fun b1 => ?_))
 refine LO_l rfl (by decide : 2 < 40) (ol_alloc (t := resT) rfl tok58 yf (fun b2 => ?_))
 refine LO_nil (w1 ((yR (ov_makeFunc rfl rfl rfl) ?_)))
 refine yA_ ?_
 refine RO_nil (w1 ((yM ?_)))
 refine yP (ov_call  rfl rfl rfl Tryz.call188 (c_legal_goal_1 p hp 0 b1 _ _ ye ye)) ?_
 refine yM ?_
 refine yP (ov_call  rfl rfl rfl Tryz.call188 (c_legal_goal_1 p hp 1 b1 _ _ ye ye)) ?_
 refine yA_ ?_
 refine yA_ ?_
 refine RO_nil (W_seq (W_block (w1 ((yM ?_)))))
 refine yM ?_
 refine gM ?_
 refine yR (ov_and rfl rfl rfl rfl (fun h => bq h)) ?_
 refine yA_ ?_
 refine RO_nil (W_cond rfl (fun hc1 => ?_) (fun hc1 => ?_))
 ·
  refine w2 (fun w0 => ?_)
  refine yL (ov_build (fs := fs57) (ds := [⟨0, _⟩, ⟨1, _⟩]) rfl rfl bl58 ⟨yn, yf, ⟨yn, yf, trivial⟩⟩ rfl) ?_
  refine LO_l rfl trivial (ol_sw0 rfl rfl rfl rfl yf tok58 ?_)
  refine LO_nil (W_ret ⟨trivial, yb, (ResV_cell rfl rfl ye rfl tok58 ?_)⟩)
  exact xbjy
 ·
  refine w1 ((yM ?_))
  refine yA_ ?_
  refine RO_nil (W_cond rfl (fun hc2 => ?_) (fun hc2 => ?_))
  ·
   refine w2 (fun w0 => ?_)
   refine yQ (yV rfl rfl rfl Tryz.call184 (by apply c_legal_wins <;> exact yz)) ?_
   refine LO_l rfl trivial (ol_sw0 rfl rfl rfl rfl yf tok58 ?_)
   refine LO_nil (W_ret ⟨trivial, yb, (ResV_cell rfl rfl ye rfl tok58 ?_)⟩)
   exact xbjy
  ·
   refine w1 ((yM ?_))
   refine yR (ov_not rfl rfl) ?_
   refine yA_ ?_
   refine RO_nil (W_cond rfl (fun hc3 => ?_) (fun hc3 => ?_))
   ·
    refine w2 (fun w0 => ?_)
    refine yL (ov_build (fs := fs57) (ds := []) rfl rfl bl58 trivial rfl) ?_
    refine LO_l rfl trivial (ol_sw0 rfl rfl rfl rfl yf tok58 ?_)
    refine LO_nil (W_ret ⟨trivial, yb, (ResV_cell rfl rfl ye rfl tok58 ?_)⟩)
    exact xbjy
   ·
    refine w1 ((yR (ov_fieldAddr rfl rfl fa31_4 rfl) ?_))
    refine yR (ov_load rfl rfl ye ⟨trivial, yn⟩ rfl rfl tok5) ?_
    refine yR (ov_eql rfl rfl rfl) ?_
    refine yA_ ?_
    refine RO_nil (W_cond rfl (fun hc4 => ?_) (fun hc4 => ?_))
    ·
     refine w2 (fun w0 => ?_)
     refine yQ (yV rfl rfl rfl Tryz.call184 (by apply c_legal_wins <;> exact yz)) ?_
     refine LO_l rfl trivial (ol_sw0 rfl rfl rfl rfl yf tok58 ?_)
     refine LO_nil (W_ret ⟨trivial, yb, (ResV_cell rfl rfl ye rfl tok58 ?_)⟩)
     exact xbjy
    ·
     refine W_skip (w2 (fun w0 => ?_))
     refine yL (ov_load rfl rfl ye trivial rfl rfl tok31) ?_
     refine yQ (yV rfl rfl rfl Tryz.call115 (by apply c_board_Find <;> exact yz)) ?_
     refine LO_l rfl (by decide : 6 < 40) (ol_alloc (t := i64) rfl tok3 yf (fun b3 => ?_))
     refine LO_l rfl trivial (ol_sw0 rfl rfl rfl rfl yf tok3 ?_)
     refine LO_nil (w1 ((yR (ov_makeFunc rfl rfl rfl) ?_)))
     refine yA_ ?_
     refine RO_nil (W_seq (w2 (fun w0 => ?_)))
     refine yL (ov_load rfl rfl ye trivial rfl rfl tok31) ?_
     refine LO_l rfl (by decide : 35 < 40) (ol_call (v0 := []) (v2 := []) rfl rfl rfl Tryz.call35 (Con.mono (by apply c_legal_would <;> exact yz) ?_))
     rintro vw _ rfl
     refine zM ?_
     refine yQ (yV rfl rfl rfl Tryz.call83 (c_slices_ContainsFunc vw (wouldP p) 189 [ptrv b3 i64 []] (comesP (firstB (ofB p 1 6))) _ Tryz.call189 (fun x hx => c_legal_goal_2 x (allL_mok hp (wouldP_mem hx)) _ b3 _ _ ye) (hl_row (.head _)) hwl)) ?_
     refine LO_nil (W_cond rfl (fun hc5 => ?_) (fun hc5 => ?_))
     ·
      refine w2 (fun w0 => ?_)
      refine yL (ov_build (fs := fs57) (ds := []) rfl rfl bl58 trivial rfl) ?_
      refine LO_l rfl trivial (ol_sw2 rfl rfl rfl rfl yf tok58 ?_)
      refine LO_nil (W_ret ⟨trivial, yb, (ResV_cell rfl rfl ye rfl tok58 ?_)⟩)
      exact xbjy
     ·
      refine W_skip (w2 (fun w0 => ?_))
      refine yQ (yV rfl rfl rfl Tryz.call184 (by apply c_legal_wins <;> exact yz)) ?_
      refine LO_l rfl trivial (ol_sw2 rfl rfl rfl rfl yf tok58 ?_)
      refine LO_nil (W_ret ⟨trivial, yb, (ResV_cell rfl rfl ye rfl tok58 ?_)⟩)
      exact xbjy

theorem c_legal_winners (M : List Fact) : Pure Tryz.prog 72 [] M (enc (.ar 9 (.st [.fn])) winT) := by
 have hww := winT_wf
 refine pure_of_W (n := 8) Tryz.func72 rfl rfl yn ?_
 refine w2 (fun w0 => ?_)
 refine LO_l rfl (by decide : 0 < 8) (ol_alloc (t := (.ar 9 (.st [.fn]))) rfl tok101 yf (fun b1 => ?_))
 refine LO_nil (w2 (fun w0 => ?_))
 refine yL (ov_build (fs := fs99) (ds := [⟨0, (some (141, [], []) : FnV)⟩]) rfl rfl bl100 ⟨yn, yf, trivial⟩ rfl) ?_
 refine yL (ov_build (fs := fs99) (ds := [⟨0, (some (142, [], []) : FnV)⟩]) rfl rfl bl100 ⟨yn, yf, trivial⟩ rfl) ?_
 refine yL (ov_build (fs := fs99) (ds := [⟨0, (some (143, [], []) : FnV)⟩]) rfl rfl bl100 ⟨yn, yf, trivial⟩ rfl) ?_
 refine yL (ov_build (fs := fs99) (ds := [⟨0, (some (144, [], []) : FnV)⟩]) rfl rfl bl100 ⟨yn, yf, trivial⟩ rfl) ?_
 refine yL (ov_build (fs := fs99) (ds := [⟨0, (some (145, [], []) : FnV)⟩]) rfl rfl bl100 ⟨yn, yf, trivial⟩ rfl) ?_
 refine yL (ov_build (fs := fs99) (ds := [⟨0, (some (146, [], []) : FnV)⟩]) rfl rfl bl100 ⟨yn, yf, trivial⟩ rfl) ?_
 refine yL (ov_buildA (t := (.st [.fn])) (ds := [(3, _), (5, _), (6, _), (7, _), (4, _), (8, _)]) rfl rfl bl101 ⟨yn, yf, ⟨yn, yf, ⟨yn, yf, ⟨yn, yf, ⟨yn, yf, ⟨yn, yf, trivial⟩⟩⟩⟩⟩⟩ rfl) ?_
 refine LO_l rfl trivial (ol_sw0 rfl rfl rfl rfl yf tok101 ?_)
 refine LO_nil (W_ret ⟨trivial, yb, (ResV_cell rfl rfl ye rfl tok101 ?_)⟩)
 rfl

theorem win_ok {p : Pos} (hp : POK p) (h0 : 0 ≤ vr p) (h9 : vr p < 9) (ht : tu p ≤ 1) (h : (winAt (vr p)).1.isSome = true) : ∃ f, (winAt (vr p)).1 = some (f, [], []) ∧ (∀ av w, (callFunc f av).run Tryz.prog w = .ok (.enter f av) w) ∧ ∀ M, TAB ∈ M → Pure Tryz.prog f [enc posT p] M (enc resT (wonBy p)) := by
  rcases fin9 h0 h9 with e | e | e | e | e | e | e | e | e <;> rw [e] at h ⊢
  · cases h
  · cases h
  · cases h
  · exact ⟨_, rfl, Tryz.call141, fun M hT => by rw [wonBy_3 e]; exact c_legal_blown p hp M hT ht⟩
  · exact ⟨_, rfl, Tryz.call145, fun M hT => by rw [wonBy_4 e]; exact c_legal_bare p hp M ht⟩
  · exact ⟨_, rfl, Tryz.call142, fun M hT => by rw [wonBy_5 e]; exact c_legal_checks p hp M ht⟩
  · exact ⟨_, rfl, Tryz.call143, fun M hT => by rw [wonBy_6 e]; exact c_legal_onHill p hp M hT ht⟩
  · exact ⟨_, rfl, Tryz.call144, fun M hT => by rw [wonBy_7 e]; exact c_legal_horde p hp M⟩
  · exact ⟨_, rfl, Tryz.call146, fun M hT => by rw [wonBy_8 e]; exact c_legal_goal p hp M hT⟩

theorem c_legal_Won (p : Pos) (hp : POK p) (M : List Fact) (hT : TAB ∈ M) : Pure Tryz.prog 34 [enc posT p] M (enc resT (wonP p)) := by
 obtain ⟨hb, hpw, hvr, htu, hpg, hvr0, htu0⟩ := hp.head
 have hww := winT_wf
 refine pure_of_W (n := 25) Tryz.func34 rfl rfl yn ?_
 refine w2 (fun w0 => ?_)
 refine LO_l rfl (by decide : 1 < 25) (ol_box (t := posT) rfl rfl rfl yf (fun b1 => ?_))
 refine LO_l rfl (by decide : 2 < 25) (ol_alloc (t := resT) rfl tok58 yf (fun b2 => ?_))
 refine LO_nil (W_seq (w1 ((yR (ov_fieldAddr rfl rfl fa31_0 rfl) ?_))))
 refine yR (ov_load rfl rfl ye ⟨trivial, yn⟩ rfl rfl tok5) ?_
 refine yR (ov_geq rfl rfl rfl) ?_
 refine yM ?_
 refine yG (fun hg => OpX.v (ov_fieldAddr rfl rfl fa31_4 rfl)) ?_
 refine yG (fun hg => OpX.v (ov_load rfl (look_gv rfl (bq hg)) ye ⟨trivial, yn⟩ rfl rfl tok5)) ?_
 refine yG (fun hg => OpX.v (ov_gtr rfl (look_gv rfl (bq hg)) rfl)) ?_
 refine yR (ov_or rfl rfl rfl rfl (fun h => bq h)) ?_
 refine RO_nil (W_cond rfl (fun hc1 => ?_) (fun hc1 => ?_))
 ·
  refine w2 (fun w0 => ?_)
  refine yL (ov_build (fs := fs57) (ds := []) rfl rfl bl58 trivial rfl) ?_
  refine LO_l rfl trivial (ol_sw0 rfl rfl rfl rfl yf tok58 ?_)
  refine LO_nil (W_ret ⟨trivial, yb, (ResV_cell rfl rfl ye rfl tok58 ?_)⟩)
  exact xbky
 ·
  have ht : tu p ≤ 1 := Int.not_lt.1 (of_decide_eq_false (Bool.or_eq_false_iff.1 hc1).2)
  have hv9 : vr p < 9 := Int.not_le.1 (of_decide_eq_false (Bool.or_eq_false_iff.1 hc1).1)
  have hv9_ := hv9
  simp only [vr] at hv9_
  have hwv := winAt_wf (vr p)
  refine W_skip (W_seq (W_seq (W_regD (fun i => !Nat.beq i 5) mixed (fun w0 => ?_))))
  refine D_mem0 (i := 1) rfl yk yk rfl rfl yd (ov_fieldAddr rfl rfl fa31_0 rfl) ?_
  refine D_mem0 (i := 2) rfl yk yk rfl rfl yd (ov_load rfl rfl ye ⟨trivial, yn⟩ rfl rfl tok5) ?_
  refine D_two (i := 0) (j := 4) rfl rfl yk rfl rfl (by decide : 13 < 25) (by decide : 3 < 25) ((OpL_two (yV rfl rfl rfl Tryz.call72 (by apply c_legal_winners <;> exact yz)) ⟨xaay, ?_⟩)) (ol_alloc (t := (.st [.fn])) rfl tok100 yf (fun b3 => ⟨xaay, ?_⟩))
  ·
   refine D_mem0 (i := 3) rfl yk yk rfl rfl yd (ov_index (t := (.ar 9 (.st [.fn]))) rfl rfl yf rfl rfl Tryz.underlying101 ya ya (tn ya ya) rfl rfl rfl tok100) ?_
   refine D_one (i := 4) rfl yk rfl (by decide : 3 < 25) (ol_alloc (t := (.st [.fn])) rfl tok100 yf (fun b4 => ⟨xaay, ?_⟩))
   refine D_one (i := 5) rfl yk rfl trivial (ol_sw0 rfl rfl rfl rfl yf tok100 ⟨xaay, ?_⟩)
   refine D_end yk ?_
   refine w1 ((yR (ov_fieldAddr rfl rfl fa100_0 rfl) ?_))
   refine yR (ov_load rfl rfl ye ⟨trivial, yn⟩ rfl rfl tok59) ?_
   refine yR (ov_neqfn rfl rfl rfl Tryz.underlying59) ?_
   refine RO_nil (W_cond rfl (fun hc2 => ?_) (fun hc2 => ?_))
   ·
    obtain ⟨f, hfn, hcf, hpf⟩ := win_ok hp hvr.1 hv9 ht hc2
    refine w2 (fun w0 => ?_)
    refine yL (ov_fieldAddr rfl rfl fa100_0 rfl) ?_
    refine yL (ov_load (v := .func (.func f) #[] #[]) rfl rfl ye ⟨trivial, yn⟩ rfl (congrArg (fun q => some (encFn q)) hfn) tok59) ?_
    refine yL (ov_load rfl rfl ye trivial rfl rfl tok31) ?_
    refine yQ (ov_call  rfl rfl rfl hcf (hpf _ ye)) ?_
    refine LO_l rfl trivial (ol_sw1 rfl rfl rfl rfl yf tok58 ?_)
    refine LO_nil (W_ret ⟨trivial, yb, (ResV_cell rfl rfl ye rfl tok58 ?_)⟩)
    exact xbky
   ·
    refine W_skip (w2 (fun w0 => ?_))
    refine yL (ov_build (fs := fs57) (ds := []) rfl rfl bl58 trivial rfl) ?_
    refine LO_l rfl trivial (ol_sw1 rfl rfl rfl rfl yf tok58 ?_)
    refine LO_nil (W_ret ⟨trivial, yb, (ResV_cell rfl rfl ye rfl tok58 ?_)⟩)
    exact xbky
  ·
   refine D_oneV (i := 0) rfl yk rfl rfl yd xaay (yV rfl rfl rfl Tryz.call72 (by apply c_legal_winners <;> exact yz)) ?_
   refine D_oneV (i := 3) rfl yk rfl rfl yd xaay (OpX.v (ov_index (t := (.ar 9 (.st [.fn]))) rfl rfl yf rfl rfl Tryz.underlying101 ya ya (tn ya ya) rfl rfl rfl tok100)) ?_
   refine D_one (i := 5) rfl yk rfl trivial (ol_sw0 rfl rfl rfl rfl yf tok100 ⟨xaay, ?_⟩)
   refine D_end yk ?_
   refine w1 ((yR (ov_fieldAddr rfl rfl fa100_0 rfl) ?_))
   refine yR (ov_load rfl rfl ye ⟨trivial, yn⟩ rfl rfl tok59) ?_
   refine yR (ov_neqfn rfl rfl rfl Tryz.underlying59) ?_
   refine RO_nil (W_cond rfl (fun hc3 => ?_) (fun hc3 => ?_))
   ·
    obtain ⟨f, hfn, hcf, hpf⟩ := win_ok hp hvr.1 hv9 ht hc3
    refine w2 (fun w0 => ?_)
    refine yL (ov_fieldAddr rfl rfl fa100_0 rfl) ?_
    refine yL (ov_load (v := .func (.func f) #[] #[]) rfl rfl ye ⟨trivial, yn⟩ rfl (congrArg (fun q => some (encFn q)) hfn) tok59) ?_
    refine yL (ov_load rfl rfl ye trivial rfl rfl tok31) ?_
    refine yQ (ov_call  rfl rfl rfl hcf (hpf _ ye)) ?_
    refine LO_l rfl trivial (ol_sw1 rfl rfl rfl rfl yf tok58 ?_)
    refine LO_nil (W_ret ⟨trivial, yb, (ResV_cell rfl rfl ye rfl tok58 ?_)⟩)
    exact xbky
   ·
    refine W_skip (w2 (fun w0 => ?_))
    refine yL (ov_build (fs := fs57) (ds := []) rfl rfl bl58 trivial rfl) ?_
    refine LO_l rfl trivial (ol_sw1 rfl rfl rfl rfl yf tok58 ?_)
    refine LO_nil (W_ret ⟨trivial, yb, (ResV_cell rfl rfl ye rfl tok58 ?_)⟩)
    exact xbky

theorem c_legal_List (p : Pos) (hp : POK p) (M : List Fact) (hT : TAB ∈ M) : Con Tryz.prog 15 [enc posT p] M (fun u M' => M' = .row u 55 moveT (legalL p) :: M) := by
 obtain ⟨hb, hpw, hvr, htu, hpg, hvr0, htu0⟩ := hp.head
 refine con_of_W (n := 9) Tryz.func15 rfl rfl yn ?_
 refine w2 (fun w0 => ?_)
 refine LO_l rfl (by decide : 1 < 9) (ol_box (t := posT) rfl rfl rfl yf (fun b1 => ?_))
 refine zA ?_
 refine LO_nil (W_seq (w1 ((yR (ov_load rfl rfl ye trivial rfl rfl tok31) ?_))))
 refine yP (yV rfl rfl rfl Tryz.call34 (by apply c_legal_Won <;> exact yz)) ?_
 refine yR (ov_field (t := resT) rfl rfl yf rfl Tryz.underlying58 rfl yn rfl rfl rfl tok5) ?_
 refine yR (ov_neq rfl rfl rfl) ?_
 refine RO_nil (W_cond rfl (fun hc1 => ?_) (fun hc1 => ?_))
 ·
  refine W_seq (W_row 55 moveT ?_)
  refine W_reg (yA_ ?_)
  refine RO_nil (W_ret ⟨trivial, _, .row _ 55 moveT (legalL p) :: M, (ResV_tmp1 rfl rfl rfl), ?_, rfl⟩)
  first | (rw [show legalL p = _ from if_pos hc1]; exact yb) | (rw [show legalL p = _ from if_neg (Bool.eq_false_iff.1 hc1)]; exact yb)
 ·
  refine W_skip (w2 (fun w0 => ?_))
  refine yL (ov_load rfl rfl ye trivial rfl rfl tok31) ?_
  refine LO_l rfl (by decide : 8 < 9) (ol_call (v0 := []) (v2 := []) rfl rfl rfl Tryz.call35 (Con.mono (by apply c_legal_would <;> exact yz) ?_))
  rintro vw _ rfl
  refine zA ?_
  refine LO_nil (W_ret ⟨trivial, _, .row _ 55 moveT (legalL p) :: M, (ResV_tmp1 rfl rfl rfl), ?_, rfl⟩)
  first | (rw [show legalL p = _ from if_pos hc1]; exact yb) | (rw [show legalL p = _ from if_neg (Bool.eq_false_iff.1 hc1)]; exact yb)
end Go.Kw
