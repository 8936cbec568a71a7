/- A part of the proof: KwV4. -/
import Derived.Test.YtpakilamdannfaaGreatDoorKi
set_option linter.all false
set_option linter.unusedVariables false
set_option linter.unusedSimpArgs false
set_option linter.unusedSectionVars false
set_option maxRecDepth 20000
set_option linter.unusedVariables false
namespace Go.Kw
open Go.Proofs


theorem eqt58_ (d : Nat) : EqT Tryz.prog (d + 2) 58 resT := eqt_st (d := d + 1) Tryz.underlying58 yk ⟨by decide, rfl, tok5, eqt5_ (d + 0), ⟨by decide, rfl, tok5, eqt5_ (d + 0), trivial⟩⟩
theorem eqt58 : EqT Tryz.prog 6 58 resT := eqt58_ 4
theorem eqg58 : Tryz.prog.eqGuardType Tryz.prog.depth 58 = false := by kernel_rfl
def stopW (q : Pos) : Bool := decide (((legalL q).length : Int) = 0) || endedP q
def wmv (q : Pos) (x : Int) : Mv := (legalL q).getD (x % ((legalL q).length : Int)).toNat (zero moveT)
def wcur (p : Pos) (way : List (El u8)) : Nat → Pos
  | 0 => p
  | i + 1 => (moveP (wcur p way i) (wmv (wcur p way i) (way.getD ((i : Nat) : Int).toNat (zero u8)))).1
def wlist (p : Pos) (way : List (El u8)) (n : Nat) : List (El posT) := (List.range (n + 1)).map (wcur p way)
def WalkN (p : Pos) (way : List (El u8)) (n : Nat) : Prop := n ≤ way.length ∧ ∀ j, j < n → stopW (wcur p way j) = false
theorem WalkN.le {p : Pos} {way : List (El u8)} {n i : Nat} (h : WalkN p way n) (hi : i ≤ n) : WalkN p way i := ⟨Nat.le_trans hi h.1, fun j hj => h.2 j yo⟩
theorem WalkN.step {p : Pos} {way : List (El u8)} {i : Nat} (h : WalkN p way i) (hi : i + 1 ≤ way.length) (hs : stopW (wcur p way i) = false) : WalkN p way (i + 1) := ⟨hi, fun j hj => by
  by_cases e : j = i
  · subst e; exact hs
  · exact h.2 j yo⟩
theorem wmv_mem {q : Pos} {x : Int} (h : 0 < ((legalL q).length : Int)) : wmv q x ∈ (show List Mv from legalL q) := by
  have h1 := Int.emod_nonneg x (show ((legalL q).length : Int) ≠ 0 by omega)
  have h2 := Int.emod_lt_of_pos x h
  have key : ∀ (l : List Mv) (k : Nat), k < l.length → l.getD k (zero moveT) ∈ l := fun l k hl => by
    rw [List.getD_eq_getElem?_getD, List.getElem?_eq_getElem hl]; exact List.getElem_mem hl
  have h3 : (x % ((legalL q).length : Int)).toNat < (legalL q).length := by
    generalize x % ((legalL q).length : Int) = y at h1 h2
    omega
  exact key (legalL q) _ h3
theorem wcur_ok {p : Pos} (hp : POK p) {way : List (El u8)} : ∀ {i : Nat}, WalkN p way i → POK (wcur p way i)
  | 0, _ => hp
  | i + 1, h => by
    have hs := h.2 i yo
    have hi := wcur_ok hp (h.le (i := i) yo)
    have hl : 0 < ((legalL (wcur p way i)).length : Int) := by
      have := (Bool.or_eq_false_iff.1 hs).1
      simp only [decide_eq_false_iff_not] at this; omega
    exact legal_ok hi (wmv_mem hl)
theorem wlist_len (p : Pos) (way : List (El u8)) (n : Nat) : (wlist p way n).length = n + 1 := by
  show (List.map _ _).length = _
  simp
theorem wlist_next (p : Pos) (way : List (El u8)) (i : Nat) : wlist p way (i + 1) = wlist p way i ++ [wcur p way (i + 1)] := by
  show List.map _ _ = (List.append (List.map _ _) _ : List Pos)
  rw [List.range_succ, List.map_append]; rfl
theorem wl_at (p : Pos) (way : List (El u8)) (m i : Nat) (h : i ≤ m) : (wlist p way m).getD ((i : Nat) : Int).toNat (zero posT) = wcur p way i := by
  show (List.map (wcur p way) (List.range (m + 1))).getD i (zero posT) = _
  rw [List.getD_eq_getElem?_getD, List.getElem?_map, List.getElem?_range yo]; rfl
theorem outX_wf (q : Pos) : wf resT (outX q) := ⟨trivial, trivial, trivial⟩
theorem ne_self {r : Res} (h : wf resT r) : (!eqv resT r r) = false := by rw [(eqv_iff resT rfl r r h h).2 rfl]; rfl
theorem c_of_ref (q : Pos) (hq : POK q) (M : List Fact) (hT : TAB ∈ M) : Pure Tryz.prog 21 [enc posT q] M (enc resT (outX q)) := by
 rw [← out_ref hq]; exact c_outcome_Of q hq M hT
theorem vr_last (p : Pos) (m : Mv) (q : Pos) : vr (mdE p (md9 p m q)) = vr q := by
  have e7 : vr (md7 p m q) = vr q := by unfold md7 md5; split <;> rfl
  have e8 : vr (md8 p m q) = vr q := by unfold md8; split <;> exact e7
  have e9 : vr (md9 p m q) = vr q := e8
  unfold mdE; split
  · exact e9
  · exact e9
theorem vr_made {p : Pos} (hp : POK p) {m : Mv} (h : m ∈ allR p) : vr (madeR p m) = vr p := by
  obtain ⟨hm, hL⟩ := allR_lm hp h
  have f1 := (Fr_men (p := p) (m := m) (takenR p m)).1
  have f2 : Fr p (md2 p m) := Fr_pocket hp f1 m _
  have f3 : Fr p (md3 p m) := by
    unfold md3; split
    · exact Fr_blow f2 _ _
    · exact f2
  have f4 : Fr p (md4 p m) := Fr_rights f3 m _
  exact (vr_last p m (md4 p m)).trans f4.v
theorem there_made {p : Pos} (hp : POK p) {m : Mv} (h : m ∈ allR p) (ht : thereR p = true) : thereR (madeR p m) = true := by
  have h1 := there_tu2 ht
  have h0 := hp.tu
  have hv : vr p < 9 := of_decide_eq_true (Bool.and_eq_true_iff.1 ht).1
  unfold thereR
  rw [vr_made hp h, tu_made, decide_eq_true hv, decide_eq_true (show 1 - tu p < 2 by omega)]; rfl
theorem there_of_all {p : Pos} (hp : POK p) (h : decide (0 < ((allE p).length : Int)) = false) : thereR p = true := by
  cases hpl : plainR p with
  | false =>
    have e : allE p = [(2 : Int)] := if_pos (by rw [hpl]; rfl)
    rw [e] at h; cases h
  | true =>
    have := plain_of (p := p) (by rw [hpl]; rfl)
    unfold thereR
    rw [decide_eq_true (show vr p < 9 by omega), decide_eq_true (show tu p < 2 by omega)]; rfl
theorem wcur_s (p : Pos) (way : List (El u8)) (i : Nat) : wcur p way (i + 1) = (moveP (wcur p way i) (wmv (wcur p way i) (way.getD ((i : Nat) : Int).toNat (zero u8)))).1 := rfl
theorem there_move {q : Pos} (hq : POK q) (ht : thereR q = true) {m : Mv} (hm : m ∈ allL q) : thereR (moveP q m).1 = true := by
  have ha : m ∈ allR q := by rw [← all_ref hq]; exact hm
  rw [move_ok hm]
  show thereR (madeP q m) = true
  rw [made_ref hq ha]; exact there_made hq ha ht
theorem there_cur {p : Pos} (hp : POK p) (ht : thereR p = true) {way : List (El u8)} : ∀ {i : Nat}, WalkN p way i → thereR (wcur p way i) = true
  | 0, _ => ht
  | i + 1, h => by
    have hs := h.2 i yo
    have hi := wcur_ok hp (h.le (i := i) yo)
    have hl : 0 < ((legalL (wcur p way i)).length : Int) := by
      have := (Bool.or_eq_false_iff.1 hs).1
      simp only [decide_eq_false_iff_not] at this; omega
    have hm := legalL_mem (wmv_mem (x := way.getD ((i : Nat) : Int).toNat (zero u8)) hl)
    rw [wcur_s]
    exact there_move hi (there_cur hp ht (h.le (i := i) yo)) hm
theorem going_ne {q : Pos} (hq : POK q) (ht : thereR q = true) (h : decide ((outX q).1 = 0) = true) : decide (((legalL q).length : Int) = 0) = false := by
  have h : (outX q).1 = 0 := of_decide_eq_true h
  refine decide_eq_false fun hz => ?_
  rw [legal_ref hq] at hz
  unfold outX at h
  rw [if_neg (by rw [ht]; simp)] at h
  split at h
  · rename_i hw
    rw [h] at hw; cases hw
  · rw [if_pos (decide_eq_true hz)] at h
    split at h
    · have : mineR q = 0 := h
      unfold mineR at this; split at this <;> cases this
    · split at h
      · have : othR q = 0 := h
        unfold othR at this; split at this <;> cases this
      · cases h
theorem last_no {p : Pos} (hp : POK p) {way : List (El u8)} {m i : Nat} (hm : WalkN p way m) {q : Pos} (hq : POK q) (e : q = wcur p way i) (hi : i ≤ m) (h : decide ((outX q).1 = 0) = false) : decide ((i : Int) + 1 < ((wlist p way m).length : Int)) = false := by
  rw [wlist_len]
  refine decide_eq_false fun hlt => ?_
  have := (Bool.or_eq_false_iff.1 (hm.2 i yo)).2
  rw [← e, ended_ref hq, h] at this
  cases this
def q0P : Pos := ((0 : Int), (zero (.ar 64 u8) : List (El u8)), (0#64 : BitVec 64), (zero (.ar 2 (.ar 6 u8)) : List (List (El u8))), (1 : Int), (zero (.ar 2 (.ar 2 i8)) : List (List (El i8))), (-1 : Int), (zero (.ar 2 u8) : List (El u8)), (0 : Int), (1 : Int), ())
theorem rep2_getD (n m c k : Nat) : (((List.replicate n (List.replicate m (0 : Int))).getD c []).getD k 0) = 0 := by
  rw [List.getD_eq_getElem?_getD (l := List.replicate n _), List.getElem?_replicate]
  split
  · exact rep_getD _ _ _ rfl
  · simp
theorem POK_q0 : POK q0P := by
  refine ⟨⟨trivial, wf_zero (.ar 64 u8), trivial, wf_zero (.ar 2 (.ar 6 u8)), trivial, wf_zero (.ar 2 (.ar 2 i8)), trivial, wf_zero (.ar 2 u8), trivial, trivial, trivial⟩, fun i => ?_, ⟨by decide, by decide⟩, ⟨by decide, by decide⟩, ⟨by decide, by decide⟩, ⟨by decide, by decide⟩, ⟨by decide, by decide⟩, fun c k => ?_, fun c k => ?_, fun c => ?_⟩
  · show 0 ≤ (List.replicate 64 (0 : Int)).getD i 0 ∧ (List.replicate 64 (0 : Int)).getD i 0 ≤ 255
    rw [rep_getD _ _ _ rfl]; decide
  · show 0 ≤ ((List.replicate 2 (List.replicate 6 (0 : Int))).getD c []).getD k 0 ∧ ((List.replicate 2 (List.replicate 6 (0 : Int))).getD c []).getD k 0 ≤ 255
    rw [rep2_getD]; decide
  · show -128 ≤ ((List.replicate 2 (List.replicate 2 (0 : Int))).getD c []).getD k 0 ∧ ((List.replicate 2 (List.replicate 2 (0 : Int))).getD c []).getD k 0 ≤ 127
    rw [rep2_getD]; decide
  · show 0 ≤ (List.replicate 2 (0 : Int)).getD c 0 ∧ (List.replicate 2 (0 : Int)).getD c 0 ≤ 255
    rw [rep_getD _ _ _ rfl]; decide
def stQ : Pos := putB (putB (putB q0P 53 6) 54 5) 63 14
theorem stQ_ok : POK stQ := POK_put (POK_put (POK_put POK_q0 _ yd yd) _ yd yd) _ yd yd
theorem stQ_out : outX stQ = ((1 : Int), (1 : Int), ()) := by decide +kernel
theorem stQ_check : refCheck stQ 1 = true := by decide +kernel
theorem stQ_list : list17 stQ = [] := List.eq_nil_of_length_eq_zero (by decide +kernel)
theorem c_st_of (M : List Fact) (hT : TAB ∈ M) : Pure Tryz.prog 21 [enc posT stQ] M (enc resT ((1 : Int), (1 : Int), ())) := by
 rw [← stQ_out]; exact c_of_ref stQ stQ_ok M hT
theorem c_st_check (M : List Fact) (hT : TAB ∈ M) : Pure Tryz.prog 32 [enc posT stQ, .int .u8 1] M (.bool true) := by
 have h := c_attack_Check stQ stQ_ok 1 M hT yd yd
 rw [check_ref stQ_ok yd yd, stQ_check] at h; exact h
theorem c_st_list (M : List Fact) (hT : TAB ∈ M) : Con Tryz.prog 15 [enc posT stQ] M (fun u M' => M' = .row u 55 moveT ([] : List Mv) :: M) := by
 have h := c_legal_List stQ stQ_ok M hT
 rw [legal_ref stQ_ok, stQ_list] at h; exact h
theorem c_st_count (M : List Fact) (hT : TAB ∈ M) : Pure Tryz.prog 8 [enc posT startP, .int .i64 2] M (.tuple #[.int .i64 400, .int .i64 0]) := by
 have h := c_perft_Count startP startP_ok 2 M hT yd (ways_b startP_ok yd)
 have e : countP startP 2 = (400, 0) := by
  have h : (waysP 2 startP).length = 400 := by rw [ways_lv 2 startP_ok]; exact start_all
  show (((waysP 2 startP).length : Int), (0 : Int)) = (400, 0)
  rw [h]; rfl
 rw [e] at h; exact h

theorem c_top_walk (p : Pos) (hp : POK p) (v : Value) (way : List (El u8)) (M : List Fact) (hT : TAB ∈ M) (hl : HasList M v u8 way) (hln : way.length ≤ 1000) (hwr : ∀ i, 0 ≤ (show List Int from way).getD i 0 ∧ (show List Int from way).getD i 0 ≤ 255) : Con Tryz.prog 14 [enc posT p, v] M (fun u M' => ∃ m, WalkN p way m ∧ M' = .row u 31 posT (wlist p way m) :: M) := by
 obtain ⟨hb, hpw, hvr, htu, hpg, hvr0, htu0⟩ := hp.head
 refine con_of_W (n := 46) Tryz.func14 rfl rfl yn ?_
 refine w2 (fun w0 => ?_)
 refine LO_l rfl (by decide : 2 < 46) (ol_box (t := posT) rfl rfl rfl yf (fun b1 => ?_))
 refine zA ?_
 refine LO_nil (w2 (fun w0 => ?_))
 refine yL (ov_load rfl rfl ye trivial rfl rfl tok31) ?_
 refine LO_l rfl (by decide : 9 < 46) (ol_buildSlice (t := posT) (xs := [_]) rfl rfl rfl Tryz.underlying46 tok31 xaey yd yd yd (fun v1 => ?_))
 refine zA ?_
 refine LO_nil (W_seq (w1 ((yA_ ?_))))
 refine RO_nil (W_block (W_loop (σ := Nat × Value) (fun s => WalkN p way s.1) (fun s => [(2, ptrv b1 posT []), (1, v), (6, .int .i64 (s.1 : Int)), (5, s.2)]) (fun s => .row s.2 31 posT (wlist p way s.1) :: .box b1 31 posT (wcur p way s.1) :: M) (fun s => way.length - s.1) ((0, _)) ⟨Nat.zero_le _, fun j hj => absurd hj (Nat.not_lt_zero _)⟩ ⟨rfl, rfl, rfl, rfl, trivial⟩ yb ?_))
 rintro ⟨i, v3⟩ hI
 simp only at hI
 have hI1 := hI.1
 refine W_seq (w1 ((yM ?_)))
 refine yM ?_
 refine yR (ov_len rfl rfl xaby Tryz.underlying43) ?_
 refine yR (ov_lss rfl rfl rfl) ?_
 refine RO_nil (W_cond rfl (fun hc1 => ?_) (fun hc1 => ?_))
 ·
  try simp only [yS] at hc1
  have hpi := wcur_ok hp hI
  have hwi := hpi.wf
  have hlg := legalL_len (wcur p way i)
  have hwl := wlist_len p way i
  refine W_skip (W_seq (W_block (w2 (fun w0 => ?_))))
  refine yL (ov_load rfl rfl ye trivial rfl rfl tok31) ?_
  refine LO_l rfl (by decide : 17 < 46) (ol_call (v0 := []) (v2 := []) rfl rfl rfl Tryz.call15 (Con.mono (c_legal_List (wcur p way i) hpi _ ye) ?_))
  rintro u5 _ rfl
  refine zA ?_
  refine LO_nil (W_seq (w1 ((yM ?_))))
  refine yR (ov_len rfl rfl xaby Tryz.underlying48) ?_
  refine yR (ov_eql rfl rfl rfl) ?_
  refine yM ?_
  refine yG (fun hg => OpX.v (ov_load rfl rfl ye trivial rfl rfl tok31)) ?_
  refine yG (fun hg => yV rfl rfl (looks_cons (look_gv rfl (bq hg)) looks_nil) Tryz.call33 (c_outcome_Ended (wcur p way i) hpi _ ye)) ?_
  refine yR (ov_or rfl rfl rfl rfl (fun h => bq h)) ?_
  refine RO_nil (W_cond rfl (fun hc2 => ?_) (fun hc2 => ?_))
  ·
   refine W_exit (w1 ((yM ?_)))
   refine yA_ ?_
   refine RO_nil (W_ret ⟨trivial, _, .row _ 31 posT (wlist p way i) :: M, (ResV_tmp1 rfl rfl rfl), ?_, ⟨i, hI, rfl⟩⟩)
   exact yb
  ·
   have hlp : 0 < ((legalL (wcur p way i)).length : Int) := by (have hx := (Bool.or_eq_false_iff.1 hc2).1; simp only [decide_eq_false_iff_not] at hx; omega)
   have hwy : @LE.le Int _ 0 (way.getD ((i : Nat) : Int).toNat (zero u8)) ∧ @LE.le Int _ (way.getD ((i : Nat) : Int).toNat (zero u8)) 255 := hwr i
   have hmd : 0 ≤ @HMod.hMod Int Int Int _ (way.getD ((i : Nat) : Int).toNat (zero u8)) ((legalL (wcur p way i)).length : Int) ∧ @HMod.hMod Int Int Int _ (way.getD ((i : Nat) : Int).toNat (zero u8)) ((legalL (wcur p way i)).length : Int) < ((legalL (wcur p way i)).length : Int) := ⟨Int.emod_nonneg _ yo, Int.emod_lt_of_pos _ hlp⟩
   have hmm := wmv_mem (q := (wcur p way i)) (x := (way.getD ((i : Nat) : Int).toNat (zero u8))) hlp
   have hmk := allL_mok hpi (legalL_mem hmm)
   have hwn := (legal_ok hpi hmm).wf
   have hgo := WalkN.step hI yo hc2
   refine W_skip (W_seq (W_regD (fun i => !Nat.beq i 16) mixed (fun w0 => ?_)))
   refine D_mem0 (i := 0) rfl yk yk rfl rfl yd (ov_load rfl rfl ye trivial rfl rfl tok31) ?_
   refine D_mem0 (i := 1) rfl yk yk rfl rfl yd (ov_move rfl rfl) ?_
   refine D_mem0 (i := 2) rfl yk yk rfl rfl yd (ov_move rfl rfl) ?_
   refine D_mem0 (i := 3) rfl yk yk rfl rfl yd (ov_move rfl rfl) ?_
   refine D_mem0 (i := 4) rfl yk yk rfl rfl yd (ov_indexAddr_sl (t := u8) rfl rfl xaby rfl Tryz.underlying43 Tryz.sizeOf5 ya ya) ?_
   refine D_mem0 (i := 5) rfl yk yk rfl rfl yd (ov_load_e (t := u8) (p := []) rfl rfl xaby ya trivial rfl rfl tok5) ?_
   refine D_mem0 (i := 6) rfl yk yk rfl rfl yd (ov_convn rfl rfl Tryz.underlying5 Tryz.underlying3 ya) ?_
   refine D_oneV (i := 7) rfl yk rfl rfl yd xaay (OpX.v (ov_move rfl rfl)) ?_
   refine D_oneV (i := 8) rfl yk rfl rfl yd xaay (OpX.v (ov_len rfl rfl xaby Tryz.underlying48)) ?_
   refine D_oneV (i := 9) rfl yk rfl rfl yd xaay (OpX.v (ov_rem_pos rfl rfl rfl ya ya)) ?_
   refine D_oneV (i := 10) rfl yk rfl rfl yd xaay (OpX.v (ov_indexAddr_sl (t := moveT) rfl rfl xaby rfl Tryz.underlying48 Tryz.sizeOf55 ya ya)) ?_
   refine D_oneV (i := 11) rfl yk rfl rfl yd xaay (OpX.v (ov_load_e (t := moveT) (p := []) rfl rfl xaby ya trivial rfl rfl tok55)) ?_
   refine D_oneV (i := 12) rfl yk rfl rfl yd xaay (yV rfl rfl rfl Tryz.call19 (c_after_Move (wcur p way i) hpi ((legalL (wcur p way i)).getD ((way.getD ((i : Nat) : Int).toNat (zero u8)) % ((legalL (wcur p way i)).length : Int)).toNat (zero moveT)) hmk _ ye)) ?_
   refine D_oneV (i := 13) rfl yk rfl rfl yd xaay (OpX.v (ov_move rfl rfl)) ?_
   refine D_mem0 (i := 14) rfl yk yk rfl rfl yd (ov_extract rfl rfl rfl) ?_
   refine D_pure0 (i := 15) rfl yk rfl rfl yd (ov_extract rfl rfl rfl) ?_
   refine D_one (i := 16) rfl yk rfl trivial (ol_sw2 rfl rfl rfl rfl yf tok31 ⟨xaay, ?_⟩)
   refine D_end yk ?_
   refine W_regl (fun w0 => ?_)
   refine zM ?_
   refine yL (ov_load rfl rfl ye trivial rfl rfl tok31) ?_
   refine LO_l rfl (by decide : 43 < 46) (ol_buildSlice (t := posT) (xs := [_]) rfl rfl rfl Tryz.underlying46 tok31 xaey yd yd yd (fun v2 => ?_))
   refine LO_l rfl (by decide : 44 < 46) (ol_ap2 (t := posT) rfl rfl rfl xaby ap46 xafy xafy (fun v3 => ?_))
   refine zA ?_
   refine LO_nil (W_reg (yM ?_))
   refine yR (ov_add rfl rfl rfl ya) ?_
   refine yA_ ?_
   refine RO_nil ?_
   exact ⟨(i + 1, _), xaly, hgo, ⟨rfl, rfl, rfl, rfl, trivial⟩, (by rw [wlist_next]; exact yb)⟩
 ·
  try simp only [yS] at hc1
  refine W_exit (w1 ((yM ?_)))
  refine yA_ ?_
  refine RO_nil (W_ret ⟨trivial, _, .row _ 31 posT (wlist p way i) :: M, (ResV_tmp1 rfl rfl rfl), ?_, ⟨i, hI, rfl⟩⟩)
  exact yb

theorem c_top_stirs (M : List Fact) (hT : TAB ∈ M) : Pure Tryz.prog 13 [] M (.bool true) := by
 have hsw := startP_ok.wf
 have hqw := stQ_ok.wf
 refine pure_of_W (n := 47) Tryz.func13 rfl rfl yn ?_
 refine w1 ((yA_ ?_))
 refine RO_nil (w2 (fun w0 => ?_))
 refine yQ (yV rfl rfl rfl Tryz.call25 (c_rules_Start _)) ?_
 refine zM ?_
 refine yL (ov_extract rfl rfl rfl) ?_
 refine yL (ov_extract rfl rfl rfl) ?_
 refine LO_l rfl (by decide : 1 < 47) (ol_alloc (t := posT) rfl tok31 yf (fun b1 => ?_))
 refine LO_l rfl trivial (ol_sw0 rfl rfl rfl rfl yf tok31 ?_)
 refine zA ?_
 refine LO_nil (w1 ((yR (ov_load rfl rfl ye trivial rfl rfl tok31) ?_)))
 refine yP (yV rfl rfl rfl Tryz.call8 (c_st_count _ ye)) ?_
 refine yM ?_
 refine yR (ov_extract rfl rfl rfl) ?_
 refine yR (ov_extract rfl rfl rfl) ?_
 refine yA_ ?_
 refine yA_ ?_
 refine RO_nil (w2 (fun w0 => ?_))
 refine yL (ov_build (fs := fs30) (ds := [⟨4, _⟩, ⟨6, _⟩, ⟨9, _⟩]) rfl rfl bl31 ⟨yn, yf, ⟨yn, yf, ⟨yn, yf, trivial⟩⟩⟩ rfl) ?_
 refine LO_l rfl (by decide : 5 < 47) (ol_alloc (t := posT) rfl tok31 yf (fun b2 => ?_))
 refine LO_l rfl trivial (ol_sw0 rfl rfl rfl rfl yf tok31 ?_)
 refine LO_nil (w2 (fun w0 => ?_))
 refine yL (ov_fieldAddr rfl rfl fa31_1 rfl) ?_
 refine yL (ov_indexAddr rfl rfl rfl Tryz.underlying22 rfl Tryz.sizeOf5 ya ya) ?_
 refine LO_l rfl trivial (ol_st0 rfl rfl rfl ⟨⟨trivial, yn⟩, (tn ya ya)⟩ rfl yf tok5 ?_)
 refine LO_nil (w2 (fun w0 => ?_))
 refine yL (ov_fieldAddr rfl rfl fa31_1 rfl) ?_
 refine yL (ov_indexAddr rfl rfl rfl Tryz.underlying22 rfl Tryz.sizeOf5 ya ya) ?_
 refine LO_l rfl trivial (ol_st0 rfl rfl rfl ⟨⟨trivial, yn⟩, (tn ya ya)⟩ rfl yf tok5 ?_)
 refine LO_nil (W_cut [(5, ptrv b2 posT []), (2, .bool true), (3, .int .i64 400), (4, .int .i64 0)] (.box b2 31 posT stQ :: M) ?_ ?_)
 ·
  refine W_regl (fun w0 => ?_)
  refine yL (ov_fieldAddr rfl rfl fa31_1 rfl) ?_
  refine yL (ov_indexAddr rfl rfl rfl Tryz.underlying22 rfl Tryz.sizeOf5 ya ya) ?_
  refine LO_l rfl trivial (ol_st0 rfl rfl rfl ⟨⟨trivial, yn⟩, (tn ya ya)⟩ rfl yf tok5 ?_)
  refine LO_nil ?_
  exact ⟨⟨rfl, rfl, rfl, rfl, trivial⟩, yb⟩
 ·
  refine w2 (fun w0 => ?_)
  refine zM ?_
  refine zM ?_
  refine yH (fun _ => OpX.v (ov_move rfl rfl)) ?_
  refine yH (fun _ => OpX.v (ov_eql rfl rfl rfl)) ?_
  refine yL (ov_pick rfl rfl rfl rfl rfl) ?_
  refine zM ?_
  refine yH (fun _ => OpX.v (ov_move rfl rfl)) ?_
  refine yH (fun _ => OpX.v (ov_eql rfl rfl rfl)) ?_
  refine yL (ov_pick rfl rfl rfl rfl rfl) ?_
  refine zM ?_
  refine yH (fun _ => OpX.v (ov_load rfl rfl ye trivial rfl rfl tok31)) ?_
  refine yH (fun _ => yV rfl rfl rfl Tryz.call21 (c_st_of _ ye)) ?_
  refine yH (fun _ => yV rfl rfl rfl Tryz.call31 (c_outcome_Text _)) ?_
  refine yH (fun _ => OpX.v (ov_eqlS rfl rfl rfl)) ?_
  refine yL (ov_pick rfl rfl rfl rfl rfl) ?_
  refine zM ?_
  refine yH (fun _ => OpX.v (ov_load rfl rfl ye trivial rfl rfl tok31)) ?_
  refine yH (fun _ => yV rfl rfl rfl Tryz.call32 (c_st_check _ ye)) ?_
  refine yL (ov_pick rfl rfl rfl rfl rfl) ?_
  refine zM ?_
  refine yH (fun _ => OpX.v (ov_load rfl rfl ye trivial rfl rfl tok31)) ?_
  refine LO_lG rfl rfl rfl rfl (by decide : 43 < 47) (ol_call (v0 := []) (v2 := []) rfl rfl rfl Tryz.call15 (Con.mono (c_st_list _ ye) ?_))
  rintro u7 _ rfl
  refine yH (fun _ => OpX.v (ov_len rfl rfl xaby Tryz.underlying48)) ?_
  refine yH (fun _ => OpX.v (ov_eql rfl rfl rfl)) ?_
  refine yL (ov_pick rfl rfl rfl rfl rfl) ?_
  refine zA ?_
  refine LO_nil (W_ret ⟨trivial, yb, (ResV_tmp1 rfl rfl ?_)⟩)
  rfl

theorem c_top_TopEnds (p : Pos) (hp : POK p) (v : Value) (way : List (El u8)) (M : List Fact) (hT : TAB ∈ M) (hl : HasList M v u8 way) (hwr : ∀ i, 0 ≤ (show List Int from way).getD i 0 ∧ (show List Int from way).getD i 0 ≤ 255) : Pure Tryz.prog 5 [enc posT p, v] M (.bool true) := by
 obtain ⟨hb, hpw, hvr, htu, hpg, hvr0, htu0⟩ := hp.head
 refine pure_of_W (n := 66) Tryz.func5 rfl rfl yn ?_
 refine w2 (fun w0 => ?_)
 refine LO_l rfl (by decide : 2 < 66) (ol_box (t := posT) rfl rfl rfl yf (fun b1 => ?_))
 refine zA ?_
 refine LO_nil (W_seq (w2 (fun w0 => ?_)))
 refine yL (ov_load rfl rfl ye trivial rfl rfl tok31) ?_
 refine LO_l rfl (by decide : 9 < 66) (ol_call (v0 := []) (v2 := []) rfl rfl rfl Tryz.call16 (Con.mono (by apply c_ref12_All <;> exact yz) ?_))
 rintro u5 _ rfl
 refine yL (ov_len rfl rfl xaby Tryz.underlying50) ?_
 refine yL (ov_gtr rfl rfl rfl) ?_
 refine zM ?_
 refine yH (fun hg => OpX.v (ov_move rfl rfl)) ?_
 refine yH (fun hg => OpX.v (ov_len rfl (look_gv rfl (bq hg)) xaby Tryz.underlying43)) ?_
 refine yH (fun hg => OpX.v (ov_gtr rfl (look_gv rfl (bq hg)) rfl)) ?_
 refine yL (ov_or rfl rfl rfl rfl (fun h => bq h)) ?_
 refine LO_nil (W_cond rfl (fun hc1 => ?_) (fun hc1 => ?_))
 ·
  refine w1 ((yP (yV rfl rfl rfl Tryz.call13 (c_top_stirs _ ye)) ?_))
  refine yA_ ?_
  refine RO_nil (W_ret ⟨trivial, yb, (ResV_tmp1 rfl rfl ?_)⟩)
  rfl
 ·
  have ht0 := there_of_all hp (Bool.or_eq_false_iff.1 hc1).1
  have hln : way.length ≤ 30 := by (have hx := (Bool.or_eq_false_iff.1 hc1).2; simp only [decide_eq_false_iff_not] at hx; omega)
  refine W_skip (w2 (fun w0 => ?_))
  refine yL (ov_load rfl rfl ye trivial rfl rfl tok31) ?_
  refine zM ?_
  refine LO_l rfl (by decide : 20 < 66) (ol_call (v0 := []) (v2 := []) rfl rfl rfl Tryz.call14 (Con.mono (c_top_walk p hp v way _ ye xaby yo hwr) ?_))
  rintro u6 _ ⟨m, hm, rfl⟩
  refine zA ?_
  refine LO_nil (W_seq (w1 ((yA_ ?_))))
  refine RO_nil (W_block (W_loop (σ := Nat) (fun s5 => s5 ≤ (wlist p way m).length) (fun s5 => [(5, u6), (6, .int .i64 (s5 : Int))]) (fun s5 => .row u6 31 posT (wlist p way m) :: .box b1 31 posT p :: M) (fun s5 => (wlist p way m).length - s5) (0) (by simp) ⟨rfl, rfl, trivial⟩ yb ?_))
  rintro i hI
  refine W_seq (w1 ((yM ?_)))
  refine yM ?_
  refine yR (ov_len rfl rfl xaby Tryz.underlying46) ?_
  refine yR (ov_lss rfl rfl rfl) ?_
  refine RO_nil (W_cond rfl (fun hc2 => ?_) (fun hc2 => ?_))
  ·
   try simp only [yS] at hc2
   have hxi : ((wlist p way m).getD ((i : Nat) : Int).toNat (zero posT)) = wcur p way i := wl_at p way m i (by have := wlist_len p way m; omega)
   have hpx : POK ((wlist p way m).getD ((i : Nat) : Int).toNat (zero posT)) := by (rw [hxi]; exact wcur_ok hp (hm.le (by have := wlist_len p way m; omega)))
   have hth : thereR ((wlist p way m).getD ((i : Nat) : Int).toNat (zero posT)) = true := by (rw [hxi]; exact there_cur hp ht0 (hm.le (by have := wlist_len p way m; omega)))
   have hwx := hpx.wf
   have hwo := outX_wf ((wlist p way m).getD ((i : Nat) : Int).toNat (zero posT))
   have hlg := legalL_len ((wlist p way m).getD ((i : Nat) : Int).toNat (zero posT))
   have hlw := wlist_len p way m
   have hm1 := hm.1
   refine W_skip (W_seq (W_block (w2 (fun w0 => ?_))))
   refine zM ?_
   refine zM ?_
   refine yL (ov_indexAddr_sl (t := posT) rfl rfl xaby rfl Tryz.underlying46 Tryz.sizeOf31 ya ya) ?_
   refine yL (ov_load_e (t := posT) (p := []) rfl rfl xaby ya trivial rfl rfl tok31) ?_
   refine yQ (yV rfl rfl rfl Tryz.call21 (c_of_ref ((wlist p way m).getD ((i : Nat) : Int).toNat (zero posT)) hpx _ ye)) ?_
   refine LO_l rfl (by decide : 7 < 66) (ol_alloc (t := resT) rfl tok58 yf (fun b2 => ?_))
   refine LO_l rfl trivial (ol_sw0 rfl rfl rfl rfl yf tok58 ?_)
   refine LO_nil (W_seq ?_)
   rcases Bool.eq_false_or_eq_true (decide ((outX ((wlist p way m).getD ((i : Nat) : Int).toNat (zero posT))).1 = 0)) with hsp | hsp
   ·
    refine W_regD (fun i => true) mixed (fun w0 => ?_)
    refine D_mem0 (i := 0) rfl yk yk rfl rfl yd (ov_load rfl rfl ye trivial rfl rfl tok58) ?_
    refine D_mem0 (i := 1) rfl yk yk rfl rfl yd (ov_move rfl rfl) ?_
    refine D_oneV (i := 2) rfl yk rfl rfl yd xaay (OpX.v (ov_move rfl rfl)) ?_
    refine D_oneV (i := 3) rfl yk rfl rfl yd xaay (OpX.v (ov_indexAddr_sl (t := posT) rfl rfl xaby rfl Tryz.underlying46 Tryz.sizeOf31 ya ya)) ?_
    refine D_oneV (i := 4) rfl yk rfl rfl yd xaay (OpX.v (ov_load_e (t := posT) (p := []) rfl rfl xaby ya trivial rfl rfl tok31)) ?_
    refine D_oneV (i := 5) rfl yk rfl rfl yd xaay (yV rfl rfl rfl Tryz.call22 (c_ref19_Of ((wlist p way m).getD ((i : Nat) : Int).toNat (zero posT)) hpx _)) ?_
    refine D_oneV (i := 6) rfl yk rfl rfl yd xaay (OpX.v (ov_is (v' := .bool false) (ov_neqA (t := resT) (d := 6) rfl rfl rfl rfl yn eqt58 eqg58 yf yf) (val_bool (ne_self (outX_wf _))))) ?_
    refine D_oneV (i := 7) rfl yk rfl rfl yd xaay (OpX.v (ov_move rfl rfl)) ?_
    refine D_oneVG (i := 8) rfl yk (.is1 (b := false) (want := false) rfl rfl rfl rfl) rfl yd xaay (OpX.v (ov_fieldAddr rfl rfl fa58_0 rfl)) ?_
    refine D_oneVG (i := 9) rfl yk (.is1 (b := false) (want := false) rfl rfl rfl rfl) rfl yd xaay (OpX.v (ov_load rfl rfl ye ⟨trivial, yn⟩ rfl rfl tok5)) ?_
    refine D_oneVG (i := 10) rfl yk (.is1 (b := false) (want := false) rfl rfl rfl rfl) rfl yd xaay (OpX.v (ov_is (v' := .bool true) (ov_eql rfl rfl rfl) (val_bool hsp))) ?_
    refine D_oneVG (i := 11) rfl yk (.is1 (b := false) (want := false) rfl rfl rfl rfl) rfl yd xaay (OpX.v (ov_move rfl rfl)) ?_
    refine D_mem (g := true) (i := 12) rfl yk yk rfl yd (.is1 (b := true) (want := true) rfl rfl rfl rfl) (fun _ => ov_move rfl rfl) ?_
    refine D_oneVG (i := 13) rfl yk (.is1 (b := true) (want := true) rfl rfl rfl rfl) rfl yd xaay (OpX.v (ov_move rfl rfl)) ?_
    refine D_oneVG (i := 14) rfl yk (.is1 (b := true) (want := true) rfl rfl rfl rfl) rfl yd xaay (OpX.v (ov_indexAddr_sl (t := posT) rfl rfl xaby rfl Tryz.underlying46 Tryz.sizeOf31 ya ya)) ?_
    refine D_oneVG (i := 15) rfl yk (.is1 (b := true) (want := true) rfl rfl rfl rfl) rfl yd xaay (OpX.v (ov_load_e (t := posT) (p := []) rfl rfl xaby ya trivial rfl rfl tok31)) ?_
    refine D_oneG (i := 16) rfl yk (.is1 (b := true) (want := true) rfl rfl rfl rfl) (by decide : 48 < 66) (ol_call (v0 := []) (v2 := []) rfl rfl rfl Tryz.call15 (Con.mono (c_legal_List ((wlist p way m).getD ((i : Nat) : Int).toNat (zero posT)) hpx _ ye) ?_))
    rintro u7 _ rfl
    refine ⟨xaay, ?_⟩
    refine D_oneVG (i := 17) rfl yk (.is1 (b := true) (want := true) rfl rfl rfl rfl) rfl yd xaay (OpX.v (ov_len rfl rfl xaby Tryz.underlying48)) ?_
    refine D_oneVG (i := 18) rfl yk (.is1 (b := true) (want := true) rfl rfl rfl rfl) rfl yd xaay (OpX.v (ov_is (v' := .bool false) (ov_eql rfl rfl rfl) (val_bool (going_ne hpx hth hsp)))) ?_
    refine D_oneVG (i := 19) rfl yk (.is1 (b := false) (want := false) rfl rfl rfl rfl) rfl yd xaay (OpX.v (ov_pick rfl rfl rfl rfl rfl)) ?_
    refine D_oneV (i := 20) rfl yk rfl rfl yd xaay (OpX.v (ov_pick rfl rfl rfl rfl rfl)) ?_
    refine D_oneV (i := 21) rfl yk rfl rfl yd xaay (OpX.v (ov_move rfl rfl)) ?_
    refine D_oneVG (i := 22) rfl yk (.is1 (b := false) (want := false) rfl rfl rfl rfl) rfl yd xaay (OpX.v (ov_fieldAddr rfl rfl fa58_0 rfl)) ?_
    refine D_oneVG (i := 23) rfl yk (.is1 (b := false) (want := false) rfl rfl rfl rfl) rfl yd xaay (OpX.v (ov_load rfl rfl ye ⟨trivial, yn⟩ rfl rfl tok5)) ?_
    refine D_oneVG (i := 24) rfl yk (.is1 (b := false) (want := false) rfl rfl rfl rfl) rfl yd xaay (OpX.v (ov_is (v' := .bool false) (ov_neq rfl rfl rfl) (val_bool (by rw [hsp]; rfl)))) ?_
    refine D_oneVG (i := 25) rfl yk (.is1 (b := false) (want := false) rfl rfl rfl rfl) rfl yd xaay (OpX.v (ov_move rfl rfl)) ?_
    refine D_pure (g := false) (v := undef) (i := 26) rfl yk rfl yd (.is1 (b := false) (want := true) rfl rfl rfl rfl) (fun h => by cases h) ?_
    refine D_pure (g := false) (v := undef) (i := 27) rfl yk rfl yd (.is1 (b := false) (want := true) rfl rfl rfl rfl) (fun h => by cases h) ?_
    refine D_pure (g := false) (v := undef) (i := 28) rfl yk rfl yd (.is1 (b := false) (want := true) rfl rfl rfl rfl) (fun h => by cases h) ?_
    refine D_pure (g := false) (v := undef) (i := 29) rfl yk rfl yd (.is1 (b := false) (want := true) rfl rfl rfl rfl) (fun h => by cases h) ?_
    refine D_pure (g := false) (v := undef) (i := 30) rfl yk rfl yd (.is1 (b := false) (want := true) rfl rfl rfl rfl) (fun h => by cases h) ?_
    refine D_oneVG (i := 31) rfl yk (.is1 (b := false) (want := false) rfl rfl rfl rfl) rfl yd xaay (OpX.v (ov_pick rfl rfl rfl rfl rfl)) ?_
    refine D_oneV (i := 32) rfl yk rfl rfl yd xaay (OpX.v (ov_pick rfl rfl rfl rfl rfl)) ?_
    refine D_end yk ?_
    refine W_condf rfl ?_
    refine W_skip (W_reg (yM ?_))
    refine yR (ov_add rfl rfl rfl ya) ?_
    refine yA_ ?_
    refine RO_nil ?_
    exact ⟨i + 1, yo, yo, ⟨rfl, rfl, trivial⟩, yb⟩
   ·
    refine W_regD (fun i => true) mixed (fun w0 => ?_)
    refine D_mem0 (i := 0) rfl yk yk rfl rfl yd (ov_load rfl rfl ye trivial rfl rfl tok58) ?_
    refine D_mem0 (i := 1) rfl yk yk rfl rfl yd (ov_move rfl rfl) ?_
    refine D_oneV (i := 2) rfl yk rfl rfl yd xaay (OpX.v (ov_move rfl rfl)) ?_
    refine D_oneV (i := 3) rfl yk rfl rfl yd xaay (OpX.v (ov_indexAddr_sl (t := posT) rfl rfl xaby rfl Tryz.underlying46 Tryz.sizeOf31 ya ya)) ?_
    refine D_oneV (i := 4) rfl yk rfl rfl yd xaay (OpX.v (ov_load_e (t := posT) (p := []) rfl rfl xaby ya trivial rfl rfl tok31)) ?_
    refine D_oneV (i := 5) rfl yk rfl rfl yd xaay (yV rfl rfl rfl Tryz.call22 (c_ref19_Of ((wlist p way m).getD ((i : Nat) : Int).toNat (zero posT)) hpx _)) ?_
    refine D_oneV (i := 6) rfl yk rfl rfl yd xaay (OpX.v (ov_is (v' := .bool false) (ov_neqA (t := resT) (d := 6) rfl rfl rfl rfl yn eqt58 eqg58 yf yf) (val_bool (ne_self (outX_wf _))))) ?_
    refine D_oneV (i := 7) rfl yk rfl rfl yd xaay (OpX.v (ov_move rfl rfl)) ?_
    refine D_oneVG (i := 8) rfl yk (.is1 (b := false) (want := false) rfl rfl rfl rfl) rfl yd xaay (OpX.v (ov_fieldAddr rfl rfl fa58_0 rfl)) ?_
    refine D_oneVG (i := 9) rfl yk (.is1 (b := false) (want := false) rfl rfl rfl rfl) rfl yd xaay (OpX.v (ov_load rfl rfl ye ⟨trivial, yn⟩ rfl rfl tok5)) ?_
    refine D_oneVG (i := 10) rfl yk (.is1 (b := false) (want := false) rfl rfl rfl rfl) rfl yd xaay (OpX.v (ov_is (v' := .bool false) (ov_eql rfl rfl rfl) (val_bool hsp))) ?_
    refine D_oneVG (i := 11) rfl yk (.is1 (b := false) (want := false) rfl rfl rfl rfl) rfl yd xaay (OpX.v (ov_move rfl rfl)) ?_
    refine D_pure (g := false) (v := undef) (i := 12) rfl yk rfl yd (.is1 (b := false) (want := true) rfl rfl rfl rfl) (fun h => by cases h) ?_
    refine D_pure (g := false) (v := undef) (i := 13) rfl yk rfl yd (.is1 (b := false) (want := true) rfl rfl rfl rfl) (fun h => by cases h) ?_
    refine D_pure (g := false) (v := undef) (i := 14) rfl yk rfl yd (.is1 (b := false) (want := true) rfl rfl rfl rfl) (fun h => by cases h) ?_
    refine D_pure (g := false) (v := undef) (i := 15) rfl yk rfl yd (.is1 (b := false) (want := true) rfl rfl rfl rfl) (fun h => by cases h) ?_
    refine D_pure (g := false) (v := undef) (i := 16) rfl yk rfl yd (.is1 (b := false) (want := true) rfl rfl rfl rfl) (fun h => by cases h) ?_
    refine D_pure (g := false) (v := undef) (i := 17) rfl yk rfl yd (.is1 (b := false) (want := true) rfl rfl rfl rfl) (fun h => by cases h) ?_
    refine D_pure (g := false) (v := undef) (i := 18) rfl yk rfl yd (.is1 (b := false) (want := true) rfl rfl rfl rfl) (fun h => by cases h) ?_
    refine D_oneVG (i := 19) rfl yk (.is1 (b := false) (want := false) rfl rfl rfl rfl) rfl yd xaay (OpX.v (ov_pick rfl rfl rfl rfl rfl)) ?_
    refine D_oneV (i := 20) rfl yk rfl rfl yd xaay (OpX.v (ov_pick rfl rfl rfl rfl rfl)) ?_
    refine D_oneV (i := 21) rfl yk rfl rfl yd xaay (OpX.v (ov_move rfl rfl)) ?_
    refine D_oneVG (i := 22) rfl yk (.is1 (b := false) (want := false) rfl rfl rfl rfl) rfl yd xaay (OpX.v (ov_fieldAddr rfl rfl fa58_0 rfl)) ?_
    refine D_oneVG (i := 23) rfl yk (.is1 (b := false) (want := false) rfl rfl rfl rfl) rfl yd xaay (OpX.v (ov_load rfl rfl ye ⟨trivial, yn⟩ rfl rfl tok5)) ?_
    refine D_oneVG (i := 24) rfl yk (.is1 (b := false) (want := false) rfl rfl rfl rfl) rfl yd xaay (OpX.v (ov_is (v' := .bool true) (ov_neq rfl rfl rfl) (val_bool (by rw [hsp]; rfl)))) ?_
    refine D_oneVG (i := 25) rfl yk (.is1 (b := false) (want := false) rfl rfl rfl rfl) rfl yd xaay (OpX.v (ov_move rfl rfl)) ?_
    refine D_mem (g := true) (i := 26) rfl yk yk rfl yd (.is1 (b := true) (want := true) rfl rfl rfl rfl) (fun _ => ov_move rfl rfl) ?_
    refine D_mem (g := true) (i := 27) rfl yk yk rfl yd (.is1 (b := true) (want := true) rfl rfl rfl rfl) (fun _ => ov_add rfl rfl rfl ya) ?_
    refine D_oneVG (i := 28) rfl yk (.is1 (b := true) (want := true) rfl rfl rfl rfl) rfl yd xaay (OpX.v (ov_move rfl rfl)) ?_
    refine D_oneVG (i := 29) rfl yk (.is1 (b := true) (want := true) rfl rfl rfl rfl) rfl yd xaay (OpX.v (ov_len rfl rfl xaby Tryz.underlying46)) ?_
    refine D_oneVG (i := 30) rfl yk (.is1 (b := true) (want := true) rfl rfl rfl rfl) rfl yd xaay (OpX.v (ov_is (v' := .bool false) (ov_lss rfl rfl rfl) (val_bool (last_no hp hm hpx hxi yo hsp)))) ?_
    refine D_oneVG (i := 31) rfl yk (.is1 (b := false) (want := false) rfl rfl rfl rfl) rfl yd xaay (OpX.v (ov_pick rfl rfl rfl rfl rfl)) ?_
    refine D_oneV (i := 32) rfl yk rfl rfl yd xaay (OpX.v (ov_pick rfl rfl rfl rfl rfl)) ?_
    refine D_end yk ?_
    refine W_condf rfl ?_
    refine W_skip (W_reg (yM ?_))
    refine yR (ov_add rfl rfl rfl ya) ?_
    refine yA_ ?_
    refine RO_nil ?_
    exact ⟨i + 1, yo, yo, ⟨rfl, rfl, trivial⟩, yb⟩
  ·
   try simp only [yS] at hc2
   refine W_exit (w1 ((yP (yV rfl rfl rfl Tryz.call13 (c_top_stirs _ ye)) ?_)))
   refine yA_ ?_
   refine RO_nil (W_ret ⟨trivial, yb, (ResV_tmp1 rfl rfl ?_)⟩)
   rfl
end Go.Kw
