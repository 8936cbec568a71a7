/- A part of the proof: KwR14, KwR15, KwR16. -/
import Derived.Test.YtpakilamdannfaaGreatDoorKg
set_option linter.all false
set_option linter.unusedVariables false
set_option linter.unusedSimpArgs false
set_option linter.unusedSectionVars false
set_option maxRecDepth 20000
set_option linter.unusedVariables false
set_option linter.unusedSimpArgs false
namespace Go.Kw
open Go.Proofs


def promotesR (v kd : Int) : Bool := decide (kd ∈ (show List Int from promP v))
theorem promR_yes {v kd : Int} {i : Nat} (hi : i < (promP v).length) (h : (promP v).getD ((i : Nat) : Int).toNat (zero u8) = kd) : promotesR v kd = true := by
  have key : ∀ l : List Int, i < l.length → l.getD i 0 = kd → kd ∈ l := fun l hl e => by
    rw [List.getD_eq_getElem?_getD, List.getElem?_eq_getElem hl] at e
    rw [← e]; exact List.getElem_mem hl
  exact decide_eq_true (key _ hi h)
theorem promR_no {v kd : Int} {i : Nat} (hi : (promP v).length ≤ i) (h : ∀ j, j < i → ¬ (promP v).getD ((j : Nat) : Int).toNat (zero u8) = kd) : promotesR v kd = false := by
  have key : ∀ l : List Int, l.length ≤ i → (∀ j, j < i → ¬ l.getD j 0 = kd) → ¬ kd ∈ l := fun l hl e hm => by
    obtain ⟨j, hj, hx⟩ := List.mem_iff_getElem.1 hm
    refine e j yo ?_
    rw [List.getD_eq_getElem?_getD, List.getElem?_eq_getElem hj]; exact hx
  exact decide_eq_false (key _ hi h)
def chR (p : Pos) (m : Mv) : Bool := (((((((!thereR p || mC m) || !decide (mD m = 0)) || decide (mF m < 0)) || decide (63 < mF m)) || decide (mT m < 0)) || decide (63 < mT m)) || !mayR p (mF m) (mT m))
def isR (p : Pos) (m : Mv) : Bool := if chR p m = true then false else if oneR p (mF m) (mT m) = true then decide (mP m = 0) else promotesR (vr p) (mP m)
theorem there_tu2 {p : Pos} (h : thereR p = true) : tu p ≤ 1 := there_tu (by rw [h]; rfl)
theorem isR_facts {p : Pos} {m : Mv} (h : chR p m = false) : 0 ≤ mF m ∧ mF m < 64 ∧ 0 ≤ mT m ∧ mT m < 64 ∧ tu p ≤ 1 := by
  unfold chR at h
  simp only [Bool.or_eq_false_iff, decide_eq_false_iff_not, Int.not_lt] at h
  obtain ⟨⟨⟨⟨⟨⟨⟨h1, -⟩, -⟩, h2⟩, h3⟩, h4⟩, h5⟩, -⟩ := h
  exact ⟨h2, by omega, h4, by omega, there_tu h1⟩
theorem isR_rng {p : Pos} {m : Mv} (h : isR p m = true) : 0 ≤ mF m ∧ mF m < 64 ∧ 0 ≤ mT m ∧ mT m < 64 ∧ tu p ≤ 1 := by
  unfold isR at h
  cases e : chR p m with
  | true => rw [if_pos e] at h; cases h
  | false => exact isR_facts e
def takenR (p : Pos) (m : Mv) : Int := if (!isR p m) = true then -1 else if (!emptyR p (mT m)) = true then mT m
  else if (decide (kind (pb p (mF m)) = 1) && !decide (mF m % 8 = mT m % 8)) = true then mT m - upR (tu p) else -1
def goR (s : Int) : Int × Int := if decide (s = 0) = true then (6, 5) else (2, 3)
theorem goR_rng (s : Int) : (0 ≤ (goR s).1 ∧ (goR s).1 ≤ 7) ∧ 0 ≤ (goR s).2 ∧ (goR s).2 ≤ 7 := by
  unfold goR; split <;> decide
def withinR (s a b : Int) : Bool := (decide (a ≤ s) && decide (s ≤ b)) || (decide (b ≤ s) && decide (s ≤ a))
def safeR (q : Pos) (s : Int) : Bool := if (decide (vr q = 3) && nearKing q (tu q) s 64) = true then true else decide (refBy q s (1 - tu q) = 0#64)
theorem safe_yes {q : Pos} {s : Int} {i : Nat} (hi : i < 64) (h2 : (isAt q i (1 - tu q) 6 && beside i s) = true) (h1 : (decide (((i : Nat) : Int) < 64) && decide (vr q = 3)) = true) : safeR q s = true :=
  if_pos (by rw [nearKing_t hi h2, (Bool.and_eq_true_iff.1 h1).2]; rfl)
theorem safe_no {q : Pos} {s : Int} {i : Nat} (hi : i ≤ 64) (hN : nearKing q (tu q) s i = false) (h1 : (decide (((i : Nat) : Int) < 64) && decide (vr q = 3)) = false) : safeR q s = decide (refBy q s (1 - tu q) = 0#64) := by
  refine if_neg fun h => ?_
  obtain ⟨a, b⟩ := Bool.and_eq_true_iff.1 h
  rw [a, Bool.and_true] at h1
  have := of_decide_eq_false h1
  rw [show i = 64 by omega, b] at hN; cases hN
def castF (p : Pos) (side : Int) : Int := ((rk p).getD (tu p).toNat (zero (.ar 2 i8))).getD side.toNat (zero i8)
theorem castF_rng {p : Pos} (hp : POK p) (side : Int) : -128 ≤ castF p side ∧ castF p side ≤ 127 := getD2 (n := 2) hp.rk yd yd _ _
def takeQ (p : Pos) (side : Int) : Pos := putB (putB p (find p (tu p) 6) 0) (56 * tu p + castF p side) 0
def badAt (p : Pos) (side s : Int) : Bool :=
  ((withinR s (find p (tu p) 6) (56 * tu p + (goR side).1) || withinR s (56 * tu p + castF p side) (56 * tu p + (goR side).2)) && !decide (kind (pb (takeQ p side) s) = 0))
  || (withinR s (find p (tu p) 6) (56 * tu p + (goR side).1) && !safeR (takeQ p side) s)
def badR (p : Pos) (side : Int) (i : Nat) : Bool := badAt p side (56 * tu p + (i : Int))
def okTo (f : Nat → Bool) : Nat → Bool
  | 0 => true
  | n + 1 => okTo f n && !f n
theorem okTo_next {f : Nat → Bool} {n : Nat} (h : okTo f n = true) (h2 : f n = false) : okTo f (n + 1) = true := by rw [okTo, h, h2]; rfl
theorem okTo_no {f : Nat → Bool} {i : Nat} (h2 : f i = true) : ∀ {n}, i < n → okTo f n = false
  | n + 1, h => by
    rw [okTo]
    rcases Nat.lt_or_ge i n with h' | h'
    · rw [okTo_no h2 h']; rfl
    · rw [show n = i by omega, h2]; cases okTo f i <;> rfl
def mayC1 (p : Pos) (side : Int) : Bool := ((decide (find p (tu p) 6 < 56 * tu p) || decide (56 * tu p + 7 < find p (tu p) 6)) || decide (castF p side < 0)) || decide (7 < castF p side)
def mayC2 (p : Pos) (side : Int) : Bool := (!isAt p (56 * tu p + castF p side) (tu p) 4 || (decide (side = 0) && decide (56 * tu p + castF p side < find p (tu p) 6))) || (decide (side = 1) && decide (find p (tu p) 6 < 56 * tu p + castF p side))
def mayC (p : Pos) (side : Int) : Int × Int × Bool := if (decide (1 < tu p) || !castlesP (vr p)) = true then (0, 0, false) else if mayC1 p side = true then (0, 0, false) else if mayC2 p side = true then (0, 0, false)
  else if okTo (badR p side) 8 = true then (find p (tu p) 6, 56 * tu p + castF p side, true) else (0, 0, false)
theorem cast_rng {p : Pos} {side : Int} (h : mayC1 p side = false) : 56 * tu p ≤ find p (tu p) 6 ∧ find p (tu p) 6 ≤ 56 * tu p + 7 ∧ 0 ≤ castF p side ∧ castF p side ≤ 7 := by
  unfold mayC1 at h
  simp only [Bool.or_eq_false_iff, decide_eq_false_iff_not, Int.not_lt] at h
  exact ⟨h.1.1.1, h.1.1.2, h.1.2, h.2⟩
def T3 (x : Int × Int × Bool) : Value := .tuple #[.int .i64 x.1, .int .i64 x.2.1, .bool x.2.2]
theorem mayC_a {p : Pos} {side : Int} (h : (decide (1 < tu p) || !castlesP (vr p)) = true) : Value.tuple #[.int .i64 0, .int .i64 0, .bool false] = T3 (mayC p side) := by rw [show mayC p side = _ from if_pos h]; rfl
theorem mayC_b {p : Pos} {side : Int} (h : (decide (1 < tu p) || !castlesP (vr p)) = false) (h2 : mayC1 p side = true) : Value.tuple #[.int .i64 0, .int .i64 0, .bool false] = T3 (mayC p side) := by rw [show mayC p side = _ from (if_neg (Bool.eq_false_iff.1 h)).trans (if_pos h2)]; rfl
theorem mayC_c {p : Pos} {side : Int} (h : (decide (1 < tu p) || !castlesP (vr p)) = false) (h2 : mayC1 p side = false) (h3 : mayC2 p side = true) : Value.tuple #[.int .i64 0, .int .i64 0, .bool false] = T3 (mayC p side) := by rw [show mayC p side = _ from (if_neg (Bool.eq_false_iff.1 h)).trans ((if_neg (Bool.eq_false_iff.1 h2)).trans (if_pos h3))]; rfl
theorem mayC_d {p : Pos} {side : Int} (h : (decide (1 < tu p) || !castlesP (vr p)) = false) (h2 : mayC1 p side = false) (h3 : mayC2 p side = false) {i : Nat} (hi : i < 8) (h4 : badR p side i = true) : Value.tuple #[.int .i64 0, .int .i64 0, .bool false] = T3 (mayC p side) := by
  rw [show mayC p side = _ from (if_neg (Bool.eq_false_iff.1 h)).trans ((if_neg (Bool.eq_false_iff.1 h2)).trans ((if_neg (Bool.eq_false_iff.1 h3)).trans (if_neg (by rw [okTo_no h4 hi]; simp))))]; rfl
theorem mayC_e {p : Pos} {side : Int} (h : (decide (1 < tu p) || !castlesP (vr p)) = false) (h2 : mayC1 p side = false) (h3 : mayC2 p side = false) {i : Nat} (hi : i = 8) (h4 : okTo (badR p side) i = true) : Value.tuple #[.int .i64 (find p (tu p) 6), .int .i64 (56 * tu p + castF p side), .bool true] = T3 (mayC p side) := by
  subst hi
  rw [show mayC p side = _ from (if_neg (Bool.eq_false_iff.1 h)).trans ((if_neg (Bool.eq_false_iff.1 h2)).trans ((if_neg (Bool.eq_false_iff.1 h3)).trans (if_pos h4)))]; rfl
theorem mayC_rng {p : Pos} (hp : POK p) (side : Int) : (0 ≤ (mayC p side).1 ∧ (mayC p side).1 < 64) ∧ 0 ≤ (mayC p side).2.1 ∧ (mayC p side).2.1 < 64 := by
  unfold mayC
  split
  · exact ⟨⟨by decide, by decide⟩, by decide, by decide⟩
  · rename_i h1
    have ht : tu p ≤ 1 := by
      have := Bool.eq_false_iff.2 h1
      exact Int.not_lt.1 (of_decide_eq_false (Bool.or_eq_false_iff.1 this).1)
    split
    · exact ⟨⟨by decide, by decide⟩, by decide, by decide⟩
    · rename_i h2
      have := cast_rng (Bool.eq_false_iff.2 h2)
      have hk := find_rng p (tu p) 6
      split
      · exact ⟨⟨by decide, by decide⟩, by decide, by decide⟩
      · split
        · refine ⟨⟨?_, hk.2⟩, ?_, ?_⟩
          · show 0 ≤ find p (tu p) 6
            have h0 := hp.tu
            omega
          · show 0 ≤ 56 * tu p + castF p side
            have h0 := hp.tu
            omega
          · show 56 * tu p + castF p side < 64; omega
        · exact ⟨⟨by decide, by decide⟩, by decide, by decide⟩
def castM (x : Int × Int × Bool) : Mv := (x.1, x.2.1, (0 : Int), (0 : Int), true, ())
def outR (p : Pos) : Nat → List Mv
  | 0 => []
  | n + 1 => outR p n ++ (if (mayC p (1 - (n : Int))).2.2 = true then [castM (mayC p (1 - (n : Int)))] else [])
def list14 (p : Pos) : List Mv := outR p 2
theorem outR_yes {p : Pos} {n : Nat} (h : (mayC p (1 - (n : Int))).2.2 = true) : outR p (n + 1) = outR p n ++ [castM (mayC p (1 - (n : Int)))] := by rw [outR, if_pos h]
theorem outR_no {p : Pos} {n : Nat} (h : (mayC p (1 - (n : Int))).2.2 = false) : outR p (n + 1) = outR p n := by rw [outR, if_neg (by simp [h])]; exact List.append_nil _
theorem outR_len (p : Pos) : ∀ n, (outR p n).length ≤ n
  | 0 => Nat.le_refl _
  | n + 1 => by
    have h := outR_len p n
    rw [outR]
    split
    · show (List.append _ _).length ≤ _
      simp only [List.append_eq, List.length_append, List.length_cons, List.length_nil]; omega
    · show (List.append _ _).length ≤ _
      simp only [List.append_eq, List.length_append, List.length_nil]; omega
def sideR (p : Pos) (m : Mv) : Int :=
  if (((((((((decide (1 < tu p) || !mC m) || decide (mF m = mT m)) || decide (mF m < 0)) || decide (63 < mF m)) || decide (mT m < 0)) || decide (63 < mT m)) || !decide (mF m / 8 = 7 * tu p)) || !decide (mT m / 8 = 7 * tu p))) = true then -1
  else if decide (mF m < mT m) = true then 0 else 1

theorem c_ref13_promotes (v kd : Int) (M : List Fact) : Pure Tryz.prog 192 [.int .u8 v, .int .u8 kd] M (.bool (promotesR v kd)) := by
 have hpl := prom_len v
 refine pure_of_W (n := 21) Tryz.func192 rfl rfl yn ?_
 refine W_seq (W_reg ?_)
 refine yA_ ?_
 refine RO_nil ?_
 refine W_seq (W_regl fun w0 => ?_)
 refine zM ?_
 refine LO_l rfl (by decide : 8 < 21) (ol_call (v0 := []) (v2 := []) rfl rfl rfl Tryz.call134 (Con.mono (by apply c_ref07_Promotes <;> exact yz) ?_))
 rintro vp _ rfl
 refine zA ?_
 refine LO_nil ?_
 refine W_seq ?_
 refine W_seq (W_reg ?_)
 refine yA_ ?_
 refine RO_nil ?_
 refine W_block ?_
 refine W_loop (σ := Nat) (fun s => s ≤ (promP v).length ∧ ∀ j, j < s → ¬ (promP v).getD ((j : Nat) : Int).toNat (zero u8) = kd) (fun s => [(1, .int .u8 kd), (5, vp), (6, .int .i64 (s : Int))]) (fun s => .row vp 5 u8 (promP v) :: M) (fun s => (promP v).length - s) (0) ⟨by omega, fun j hj => absurd hj yo⟩ ⟨rfl, rfl, rfl, trivial⟩ yb ?_
 rintro i ⟨hI, hN⟩
 refine W_seq ?_
 refine W_seq (W_reg ?_)
 refine yM ?_
 refine yM ?_
 refine yR (ov_len rfl rfl xaby Tryz.underlying43) ?_
 refine yR (ov_lss rfl rfl rfl) ?_
 refine RO_nil ?_
 refine W_cond rfl (fun hc1 => ?_) (fun hc1 => ?_)
 ·
  try simp only [yS] at hc1
  refine W_skip ?_
  refine W_seq ?_
  refine W_block ?_
  refine W_seq (W_reg ?_)
  refine yM ?_
  refine yM ?_
  refine yR (ov_indexAddr_sl (t := u8) rfl rfl xaby rfl Tryz.underlying43 Tryz.sizeOf5 ya ya) ?_
  refine yR (ov_load_e (t := u8) (p := []) rfl rfl xaby ya trivial rfl rfl tok5) ?_
  refine yM ?_
  refine yR (ov_eql rfl rfl rfl) ?_
  refine RO_nil ?_
  refine W_cond rfl (fun hc2 => ?_) (fun hc2 => ?_)
  ·
   try simp only [yS] at hc2
   refine W_seq (W_reg ?_)
   refine yA_ ?_
   refine RO_nil ?_
   refine W_ret ?_
   refine ⟨trivial, yb, (ResV_tmp1 rfl rfl ?_)⟩
   first | exact val_bool (promR_yes (i := i) yo hc2).symm | exact val_bool (promR_no (i := i) yo hN).symm
  ·
   try simp only [yS] at hc2
   refine W_skip ?_
   refine W_reg ?_
   refine yM ?_
   refine yR (ov_add rfl rfl rfl ya) ?_
   refine yA_ ?_
   refine RO_nil ?_
   exact ⟨i + 1, yo, ⟨by omega, fun j hj => by rcases Nat.lt_or_ge j i with h | h; (· exact hN j h); (· rw [show j = i by omega]; exact hc2)⟩, ⟨rfl, rfl, rfl, trivial⟩, yb⟩
 ·
  try simp only [yS] at hc1
  refine W_exit ?_
  refine W_seq (W_reg ?_)
  refine yA_ ?_
  refine RO_nil ?_
  refine W_ret ?_
  refine ⟨trivial, yb, (ResV_tmp1 rfl rfl ?_)⟩
  first | exact val_bool (promR_yes (i := i) yo hc2).symm | exact val_bool (promR_no (i := i) yo hN).symm

theorem c_ref13_Is (p : Pos) (hp : POK p) (m : Mv) (hm : MOK m) (M : List Fact) : Pure Tryz.prog 154 [enc posT p, enc moveT m] M (.bool (isR p m)) := by
 have hb := hp.board
 have hpw := hp.wf
 have hvr := hp.vr
 have htu := hp.tu
 have hpg := hp.pg
 have hvr0 := hp.vr
 have htu0 := hp.tu
 simp only [vr] at hvr0
 simp only [tu] at htu0
 have hmF := hm.f
 have hmT := hm.t
 have hmP := hm.p
 have hmD := hm.d
 have hmF0 := hm.f
 have hmT0 := hm.t
 have hmP0 := hm.p
 have hmD0 := hm.d
 simp only [mF] at hmF0
 simp only [mT] at hmT0
 simp only [mP] at hmP0
 simp only [mD] at hmD0
 have hmw := wf_move m
 refine pure_of_W (n := 69) Tryz.func154 rfl rfl yn ?_
 refine W_seq (W_regl fun w0 => ?_)
 refine LO_l rfl (by decide : 2 < 69) (ol_box (t := posT) rfl rfl rfl yf (fun b1 => ?_))
 refine LO_l rfl (by decide : 3 < 69) (ol_box (t := moveT) rfl rfl rfl yf (fun b2 => ?_))
 refine zA ?_
 refine LO_nil ?_
 refine W_seq ?_
 refine W_regd mixed yk ?_
 refine yR (ov_fieldAddr rfl rfl fa55_0 rfl) ?_
 refine yR (ov_load rfl rfl ye ⟨trivial, yn⟩ rfl rfl tok26) ?_
 refine yR (ov_convn rfl rfl Tryz.underlying26 Tryz.underlying3 ya) ?_
 refine yR (ov_fieldAddr rfl rfl fa55_1 rfl) ?_
 refine yR (ov_load rfl rfl ye ⟨trivial, yn⟩ rfl rfl tok26) ?_
 refine yR (ov_convn rfl rfl Tryz.underlying26 Tryz.underlying3 ya) ?_
 refine yA_ ?_
 refine yA_ ?_
 refine RO_nil ?_
 refine W_seq ?_
 refine W_seq (W_reg ?_)
 refine yR (ov_load rfl rfl ye trivial rfl rfl tok31) ?_
 refine yP (yV rfl rfl rfl Tryz.call23 (by apply c_ref13_There <;> exact yz)) ?_
 refine yR (ov_not rfl rfl) ?_
 refine yM ?_
 refine yG (fun hg => OpX.v (ov_fieldAddr rfl rfl fa55_4 rfl)) ?_
 refine yG (fun hg => OpX.v (ov_load rfl (look_gv rfl (bq hg)) ye ⟨trivial, yn⟩ rfl rfl tok4)) ?_
 refine yR (ov_or rfl rfl rfl rfl (fun h => bq h)) ?_
 refine yM ?_
 refine yG (fun hg => OpX.v (ov_fieldAddr rfl rfl fa55_3 rfl)) ?_
 refine yG (fun hg => OpX.v (ov_load rfl (look_gv rfl (bq hg)) ye ⟨trivial, yn⟩ rfl rfl tok5)) ?_
 refine yG (fun hg => OpX.v (ov_neq rfl (look_gv rfl (bq hg)) rfl)) ?_
 refine yR (ov_or rfl rfl rfl rfl (fun h => bq h)) ?_
 refine yM ?_
 refine yG (fun hg => OpX.v (ov_move rfl rfl)) ?_
 refine yG (fun hg => OpX.v (ov_lss rfl (look_gv rfl (bq hg)) rfl)) ?_
 refine yR (ov_or rfl rfl rfl rfl (fun h => bq h)) ?_
 refine yM ?_
 refine yG (fun hg => OpX.v (ov_move rfl rfl)) ?_
 refine yG (fun hg => OpX.v (ov_gtr rfl (look_gv rfl (bq hg)) rfl)) ?_
 refine yR (ov_or rfl rfl rfl rfl (fun h => bq h)) ?_
 refine yM ?_
 refine yG (fun hg => OpX.v (ov_move rfl rfl)) ?_
 refine yG (fun hg => OpX.v (ov_lss rfl (look_gv rfl (bq hg)) rfl)) ?_
 refine yR (ov_or rfl rfl rfl rfl (fun h => bq h)) ?_
 refine yM ?_
 refine yG (fun hg => OpX.v (ov_move rfl rfl)) ?_
 refine yG (fun hg => OpX.v (ov_gtr rfl (look_gv rfl (bq hg)) rfl)) ?_
 refine yR (ov_or rfl rfl rfl rfl (fun h => bq h)) ?_
 refine yM ?_
 refine yG (fun hg => OpX.v (ov_load rfl rfl ye trivial rfl rfl tok31)) ?_
 refine yG (fun hg => OpX.v (ov_move rfl rfl)) ?_
 refine yG (fun hg => OpX.v (ov_move rfl rfl)) ?_
 refine RO_g1 rfl rfl rfl rfl rfl yd (fun hg => by have hgx := hg; (try simp only [yS] at hgx); exact yV rfl rfl (looks_cons (look_gv rfl (bq hg)) (looks_cons (look_gv rfl (bq hg)) (looks_cons (look_gv rfl (bq hg)) looks_nil))) Tryz.call132 (c_ref13_May p hp (mF m) (mT m) _ (there_tu2 (by first | exact hgx.1.1.1.1.1.1 | exact (hgx : _ ∧ _).1.1.1.1.1.1)) (by first | exact hgx.1.1.1.2) (by have : mF m ≤ 63 := hgx.1.1.2; omega) hgx.1.2 (by have : mT m ≤ 63 := hgx.2; omega))) ?_
 refine yG (fun hg => OpX.v (ov_not rfl (look_gv rfl (bq hg)))) ?_
 refine yR (ov_or rfl rfl rfl rfl (fun h => bq h)) ?_
 refine RO_nil ?_
 refine W_cond rfl (fun hc1 => ?_) (fun hc1 => ?_)
 ·
  refine W_seq (W_reg ?_)
  refine yA_ ?_
  refine RO_nil ?_
  refine W_ret ?_
  refine ⟨trivial, yb, (ResV_tmp1 rfl rfl ?_)⟩
  exact xbry
 ·
  have hir := isR_facts hc1
  have hF1 := hir.1
  have hF2 := hir.2.1
  have hT1 := hir.2.2.1
  have hT2 := hir.2.2.2.1
  have ht := hir.2.2.2.2
  simp only [mF, mT, tu] at hF1 hF2 hT1 hT2 ht
  refine W_skip ?_
  refine W_seq ?_
  refine W_seq (W_reg ?_)
  refine yM ?_
  refine yR (ov_fieldAddr rfl rfl fa31_1 rfl) ?_
  refine yR (ov_indexAddr rfl rfl rfl Tryz.underlying22 rfl Tryz.sizeOf5 ya ya) ?_
  refine yR (ov_load rfl rfl ye ⟨⟨trivial, yn⟩, (tn ya ya)⟩ rfl rfl tok5) ?_
  refine yP (yV rfl rfl rfl Tryz.call84 xaqy) ?_
  refine yR (ov_neq rfl rfl rfl) ?_
  refine yM ?_
  refine yG (fun hg => OpX.v (ov_fieldAddr rfl rfl fa31_4 rfl)) ?_
  refine yG (fun hg => OpX.v (ov_load rfl (look_gv rfl (bq hg)) ye ⟨trivial, yn⟩ rfl rfl tok5)) ?_
  refine yG (fun hg => OpX.v (ov_move rfl rfl)) ?_
  refine yG (fun hg => yV rfl rfl (looks_cons (look_gv rfl (bq hg)) (looks_cons (look_gv rfl (bq hg)) looks_nil)) Tryz.call133 (by apply c_ref13_Rank <;> exact yz)) ?_
  refine yG (fun hg => OpX.v (ov_neq rfl (look_gv rfl (bq hg)) rfl)) ?_
  refine yR (ov_or rfl rfl rfl rfl (fun h => bq h)) ?_
  refine RO_nil ?_
  refine W_cond rfl (fun hc2 => ?_) (fun hc2 => ?_)
  ·
   refine W_seq (W_reg ?_)
   refine yR (ov_fieldAddr rfl rfl fa55_2 rfl) ?_
   refine yR (ov_load rfl rfl ye ⟨trivial, yn⟩ rfl rfl tok5) ?_
   refine yR (ov_eql rfl rfl rfl) ?_
   refine yA_ ?_
   refine RO_nil ?_
   refine W_ret ?_
   refine ⟨trivial, yb, (ResV_tmp1 rfl rfl ?_)⟩
   exact xbry
  ·
   refine W_skip ?_
   refine W_seq (W_reg ?_)
   refine yR (ov_fieldAddr rfl rfl fa31_0 rfl) ?_
   refine yR (ov_load rfl rfl ye ⟨trivial, yn⟩ rfl rfl tok5) ?_
   refine yR (ov_fieldAddr rfl rfl fa55_2 rfl) ?_
   refine yR (ov_load rfl rfl ye ⟨trivial, yn⟩ rfl rfl tok5) ?_
   refine yP (yV rfl rfl rfl Tryz.call192 (by apply c_ref13_promotes <;> exact yz)) ?_
   refine yA_ ?_
   refine RO_nil ?_
   refine W_ret ?_
   refine ⟨trivial, yb, (ResV_tmp1 rfl rfl ?_)⟩
   exact xbry

theorem c_ref13_Taken (p : Pos) (hp : POK p) (m : Mv) (hm : MOK m) (M : List Fact) : Pure Tryz.prog 98 [enc posT p, enc moveT m] M (.int .i64 (takenR p m)) := by
 have hb := hp.board
 have hpw := hp.wf
 have hvr := hp.vr
 have htu := hp.tu
 have hpg := hp.pg
 have hvr0 := hp.vr
 have htu0 := hp.tu
 simp only [vr] at hvr0
 simp only [tu] at htu0
 have hmF := hm.f
 have hmT := hm.t
 have hmP := hm.p
 have hmD := hm.d
 have hmF0 := hm.f
 have hmT0 := hm.t
 have hmP0 := hm.p
 have hmD0 := hm.d
 simp only [mF] at hmF0
 simp only [mT] at hmT0
 simp only [mP] at hmP0
 simp only [mD] at hmD0
 have hmw := wf_move m
 have hup := upR_val (tu p)
 have hup0 : upR p.2.2.2.2.1 = 8 ∨ upR p.2.2.2.2.1 = -8 := hup
 refine pure_of_W (n := 39) Tryz.func98 rfl rfl yn ?_
 refine W_seq (W_regl fun w0 => ?_)
 refine LO_l rfl (by decide : 2 < 39) (ol_box (t := posT) rfl rfl rfl yf (fun b1 => ?_))
 refine LO_l rfl (by decide : 3 < 39) (ol_box (t := moveT) rfl rfl rfl yf (fun b2 => ?_))
 refine zA ?_
 refine LO_nil ?_
 refine W_seq ?_
 refine W_seq (W_reg ?_)
 refine yR (ov_load rfl rfl ye trivial rfl rfl tok31) ?_
 refine yR (ov_load rfl rfl ye trivial rfl rfl tok55) ?_
 refine yP (yV rfl rfl rfl Tryz.call154 (by apply c_ref13_Is <;> exact yz)) ?_
 refine yR (ov_not rfl rfl) ?_
 refine RO_nil ?_
 refine W_cond rfl (fun hc1 => ?_) (fun hc1 => ?_)
 ·
  refine W_seq (W_reg ?_)
  refine yA_ ?_
  refine RO_nil ?_
  refine W_ret ?_
  refine ⟨trivial, yb, (ResV_tmp1 rfl rfl ?_)⟩
  exact xbsy
 ·
  have hir := isR_rng (by simpa using hc1)
  have hF1 := hir.1
  have hF2 := hir.2.1
  have hT1 := hir.2.2.1
  have hT2 := hir.2.2.2.1
  have ht := hir.2.2.2.2
  simp only [mF, mT, tu] at hF1 hF2 hT1 hT2 ht
  refine W_skip ?_
  refine W_seq (W_reg ?_)
  refine yR (ov_fieldAddr rfl rfl fa55_1 rfl) ?_
  refine yR (ov_load rfl rfl ye ⟨trivial, yn⟩ rfl rfl tok26) ?_
  refine yR (ov_convn rfl rfl Tryz.underlying26 Tryz.underlying3 ya) ?_
  refine yA_ ?_
  refine RO_nil ?_
  refine W_seq ?_
  refine W_seq (W_reg ?_)
  refine yR (ov_load rfl rfl ye trivial rfl rfl tok31) ?_
  refine yM ?_
  refine yP (yV rfl rfl rfl Tryz.call155 (by apply c_ref13_Empty <;> exact yz)) ?_
  refine yR (ov_not rfl rfl) ?_
  refine RO_nil ?_
  refine W_cond rfl (fun hc2 => ?_) (fun hc2 => ?_)
  ·
   refine W_seq (W_reg ?_)
   refine yM ?_
   refine yA_ ?_
   refine RO_nil ?_
   refine W_ret ?_
   refine ⟨trivial, yb, (ResV_tmp1 rfl rfl ?_)⟩
   exact xbsy
  ·
   refine W_skip ?_
   refine W_seq ?_
   refine W_seq (W_reg ?_)
   refine yR (ov_fieldAddr rfl rfl fa55_0 rfl) ?_
   refine yR (ov_load rfl rfl ye ⟨trivial, yn⟩ rfl rfl tok26) ?_
   refine yR (ov_fieldAddr rfl rfl fa31_1 rfl) ?_
   refine yR (ov_indexAddr rfl rfl rfl Tryz.underlying22 rfl Tryz.sizeOf5 ya ya) ?_
   refine yR (ov_load rfl rfl ye ⟨⟨trivial, yn⟩, (tn ya ya)⟩ rfl rfl tok5) ?_
   refine yP (yV rfl rfl rfl Tryz.call84 xaqy) ?_
   refine yR (ov_eql rfl rfl rfl) ?_
   refine yM ?_
   refine yG (fun hg => OpX.v (ov_fieldAddr rfl rfl fa55_0 rfl)) ?_
   refine yG (fun hg => OpX.v (ov_load rfl (look_gv rfl (bq hg)) ye ⟨trivial, yn⟩ rfl rfl tok26)) ?_
   refine yG (fun hg => OpX.v (ov_rem_pos rfl (look_gv rfl (bq hg)) rfl ya ya)) ?_
   refine yG (fun hg => OpX.v (ov_fieldAddr rfl rfl fa55_1 rfl)) ?_
   refine yG (fun hg => OpX.v (ov_load rfl (look_gv rfl (bq hg)) ye ⟨trivial, yn⟩ rfl rfl tok26)) ?_
   refine yG (fun hg => OpX.v (ov_rem_pos rfl (look_gv rfl (bq hg)) rfl ya ya)) ?_
   refine yG (fun hg => OpX.v (ov_neq rfl (look_gv rfl (bq hg)) (look_gv rfl (bq hg)))) ?_
   refine yR (ov_and rfl rfl rfl rfl (fun h => bq h)) ?_
   refine RO_nil ?_
   refine W_cond rfl (fun hc3 => ?_) (fun hc3 => ?_)
   ·
    refine W_seq (W_reg ?_)
    refine yM ?_
    refine yR (ov_fieldAddr rfl rfl fa31_4 rfl) ?_
    refine yR (ov_load rfl rfl ye ⟨trivial, yn⟩ rfl rfl tok5) ?_
    refine yP (yV rfl rfl rfl Tryz.call156 (by apply c_ref13_Up <;> exact yz)) ?_
    refine yR (ov_sub rfl rfl rfl ya) ?_
    refine yA_ ?_
    refine RO_nil ?_
    refine W_ret ?_
    refine ⟨trivial, yb, (ResV_tmp1 rfl rfl ?_)⟩
    exact xbsy
   ·
    refine W_skip ?_
    refine W_seq (W_reg ?_)
    refine yA_ ?_
    refine RO_nil ?_
    refine W_ret ?_
    refine ⟨trivial, yb, (ResV_tmp1 rfl rfl ?_)⟩
    exact xbsy

theorem c_ref14_Goals (s : Int) (M : List Fact) : Pure Tryz.prog 174 [.int .i64 s] M (.tuple #[.int .i64 (goR s).1, .int .i64 (goR s).2]) := by
 refine pure_of_W (n := 6) Tryz.func174 rfl rfl yn ?_
 refine W_seq (W_reg ?_)
 refine yA_ ?_
 refine yA_ ?_
 refine RO_nil ?_
 refine W_seq ?_
 refine W_seq (W_reg ?_)
 refine yM ?_
 refine yR (ov_eql rfl rfl rfl) ?_
 refine RO_nil ?_
 refine W_cond rfl (fun hc1 => ?_) (fun hc1 => ?_)
 ·
  refine W_seq (W_reg ?_)
  refine yA_ ?_
  refine yA_ ?_
  refine RO_nil ?_
  refine W_ret ?_
  refine ⟨trivial, yb, (ResV_tmp2q rfl rfl rfl ?_)⟩
  first | (rw [show goR s = _ from if_pos hc1]) | (rw [show goR s = _ from if_neg (Bool.eq_false_iff.1 hc1)])
 ·
  refine W_skip ?_
  refine W_seq (W_reg ?_)
  refine yA_ ?_
  refine yA_ ?_
  refine RO_nil ?_
  refine W_ret ?_
  refine ⟨trivial, yb, (ResV_tmp2q rfl rfl rfl ?_)⟩
  first | (rw [show goR s = _ from if_pos hc1]) | (rw [show goR s = _ from if_neg (Bool.eq_false_iff.1 hc1)])

theorem c_ref14_within (s a b : Int) (M : List Fact) : Pure Tryz.prog 178 [.int .i64 s, .int .i64 a, .int .i64 b] M (.bool (withinR s a b)) := by
 refine pure_of_W (n := 25) Tryz.func178 rfl rfl yn ?_
 refine W_seq (W_reg ?_)
 refine yA_ ?_
 refine RO_nil ?_
 refine W_seq (W_reg ?_)
 refine yM ?_
 refine yM ?_
 refine yR (ov_geq rfl rfl rfl) ?_
 refine yM ?_
 refine yG (fun hg => OpX.v (ov_move rfl rfl)) ?_
 refine yG (fun hg => OpX.v (ov_move rfl rfl)) ?_
 refine yG (fun hg => OpX.v (ov_leq rfl (look_gv rfl (bq hg)) (look_gv rfl (bq hg)))) ?_
 refine yR (ov_and rfl rfl rfl rfl (fun h => bq h)) ?_
 refine yM ?_
 refine yG (fun hg => OpX.v (ov_move rfl rfl)) ?_
 refine yG (fun hg => OpX.v (ov_move rfl rfl)) ?_
 refine yG (fun hg => OpX.v (ov_geq rfl (look_gv rfl (bq hg)) (look_gv rfl (bq hg)))) ?_
 refine yG (fun hg => OpX.v (ov_move rfl (look_gv rfl (bq hg)))) ?_
 refine RO_g rfl rfl rfl rfl rfl yd (fun hg1 hg2 => OpX.v (ov_move rfl rfl)) ?_
 refine RO_g rfl rfl rfl rfl rfl yd (fun hg1 hg2 => OpX.v (ov_move rfl rfl)) ?_
 refine RO_g rfl rfl rfl rfl rfl yd (fun hg1 hg2 => OpX.v (ov_leq rfl (look_gv rfl (bq2 hg1 hg2)) (look_gv rfl (bq2 hg1 hg2)))) ?_
 refine yG (fun hg => OpX.v (ov_and rfl (look_gv rfl (bq hg)) rfl rfl (fun h => bq2 (bq hg) h))) ?_
 refine yR (ov_or rfl rfl rfl rfl (fun h => bq h)) ?_
 refine yA_ ?_
 refine RO_nil ?_
 refine W_ret ?_
 refine ⟨trivial, yb, (ResV_tmp1 rfl rfl ?_)⟩
 rfl

theorem c_ref14_safe (p : Pos) (hp : POK p) (s : Int) (M : List Fact) (ht : tu p ≤ 1) (h0 : 0 ≤ s) (h1 : s < 64) : Pure Tryz.prog 179 [enc posT p, .int .i64 s] M (.bool (safeR p s)) := by
 have hb := hp.board
 have hpw := hp.wf
 have hvr := hp.vr
 have htu := hp.tu
 have hpg := hp.pg
 have hvr0 := hp.vr
 have htu0 := hp.tu
 simp only [vr] at hvr0
 simp only [tu] at htu0
 have ht2 := ht
 simp only [tu] at ht2
 refine pure_of_W (n := 33) Tryz.func179 rfl rfl yn ?_
 refine W_seq (W_regl fun w0 => ?_)
 refine LO_l rfl (by decide : 2 < 33) (ol_box (t := posT) rfl rfl rfl yf (fun b1 => ?_))
 refine zA ?_
 refine LO_nil ?_
 refine W_seq ?_
 refine W_seq (W_reg ?_)
 refine yA_ ?_
 refine RO_nil ?_
 refine W_block ?_
 refine W_loop (σ := Nat) (fun i => i ≤ 64 ∧ nearKing p (tu p) s i = false) (fun i => [(1, .int .i64 s), (2, ptrv b1 posT []), (5, .int .i64 (i : Int))]) (fun i => .box b1 31 posT _ :: M) (fun i => 64 - i) (0) ⟨by omega, rfl⟩ ⟨rfl, rfl, rfl, trivial⟩ yb ?_
 rintro i ⟨hI, hN⟩
 refine W_seq ?_
 refine W_seq (W_reg ?_)
 refine yM ?_
 refine yR (ov_lss rfl rfl rfl) ?_
 refine yM ?_
 refine yG (fun hg => OpX.v (ov_fieldAddr rfl rfl fa31_0 rfl)) ?_
 refine yG (fun hg => OpX.v (ov_load rfl (look_gv rfl (bq hg)) ye ⟨trivial, yn⟩ rfl rfl tok5)) ?_
 refine yG (fun hg => OpX.v (ov_eql rfl (look_gv rfl (bq hg)) rfl)) ?_
 refine yR (ov_and rfl rfl rfl rfl (fun h => bq h)) ?_
 refine RO_nil ?_
 refine W_cond rfl (fun hc1 => ?_) (fun hc1 => ?_)
 ·
  have hc3 := of_decide_eq_true (Bool.and_eq_true_iff.1 hc1).1
  refine W_skip ?_
  refine W_seq ?_
  refine W_block ?_
  refine W_seq (W_reg ?_)
  refine yR (ov_load rfl rfl ye trivial rfl rfl tok31) ?_
  refine yM ?_
  refine yR (ov_fieldAddr rfl rfl fa31_4 rfl) ?_
  refine yR (ov_load rfl rfl ye ⟨trivial, yn⟩ rfl rfl tok5) ?_
  refine yR (ov_sub rfl rfl rfl ya) ?_
  refine yP (yV rfl rfl rfl Tryz.call89 (by apply c_ref08_Is <;> exact yz)) ?_
  refine yM ?_
  refine yG (fun hg => OpX.v (ov_move rfl rfl)) ?_
  refine yG (fun hg => OpX.v (ov_move rfl rfl)) ?_
  refine yG (fun hg => yV rfl rfl (looks_cons (look_gv rfl (bq hg)) (looks_cons (look_gv rfl (bq hg)) looks_nil)) Tryz.call151 (by apply c_ref08_Beside <;> exact yz)) ?_
  refine yR (ov_and rfl rfl rfl rfl (fun h => bq h)) ?_
  refine RO_nil ?_
  refine W_cond rfl (fun hc2 => ?_) (fun hc2 => ?_)
  ·
   refine W_seq (W_reg ?_)
   refine yA_ ?_
   refine RO_nil ?_
   refine W_ret ?_
   refine ⟨trivial, yb, (ResV_tmp1 rfl rfl ?_)⟩
   first | exact val_bool (safe_yes (i := i) yo hc2 hc1).symm | exact val_bool (safe_no hI hN hc1).symm
  ·
   refine W_skip ?_
   refine W_reg ?_
   refine yM ?_
   refine yR (ov_add rfl rfl rfl ya) ?_
   refine yA_ ?_
   refine RO_nil ?_
   exact ⟨i + 1, yo, ⟨by omega, nearKing_f hN hc2⟩, ⟨rfl, rfl, rfl, trivial⟩, yb⟩
 ·
  refine W_exit ?_
  refine W_seq (W_reg ?_)
  refine yR (ov_load rfl rfl ye trivial rfl rfl tok31) ?_
  refine yM ?_
  refine yR (ov_fieldAddr rfl rfl fa31_4 rfl) ?_
  refine yR (ov_load rfl rfl ye ⟨trivial, yn⟩ rfl rfl tok5) ?_
  refine yR (ov_sub rfl rfl rfl ya) ?_
  refine yP (yV rfl rfl rfl Tryz.call130 (by apply c_ref08_By <;> exact yz)) ?_
  refine yR (ov_eql64 (b := 0#64) rfl rfl rfl) ?_
  refine yA_ ?_
  refine RO_nil ?_
  refine W_ret ?_
  refine ⟨trivial, yb, (ResV_tmp1 rfl rfl ?_)⟩
  first | exact val_bool (safe_yes (i := i) yo hc2 hc1).symm | exact val_bool (safe_no hI hN hc1).symm

theorem c_ref14_May (p : Pos) (hp : POK p) (side : Int) (M : List Fact) (h0 : 0 ≤ side) (h1 : side ≤ 1) : Pure Tryz.prog 135 [enc posT p, .int .i64 side] M (.tuple #[.int .i64 (mayC p side).1, .int .i64 (mayC p side).2.1, .bool (mayC p side).2.2]) := by
 have hb := hp.board
 have hpw := hp.wf
 have hvr := hp.vr
 have htu := hp.tu
 have hpg := hp.pg
 have hvr0 := hp.vr
 have htu0 := hp.tu
 simp only [vr] at hvr0
 simp only [tu] at htu0
 have hkr := find_rng p (tu p) 6
 have hkr0 := hkr
 simp only [tu] at hkr0
 have hfr := castF_rng hp side
 have hfr0 := hfr
 simp only [castF, rk, tu] at hfr0
 have hgo := goR_rng side
 refine pure_of_W (n := 138) Tryz.func135 rfl rfl yn ?_
 refine W_seq (W_regl fun w0 => ?_)
 refine LO_l rfl (by decide : 2 < 138) (ol_box (t := posT) rfl rfl rfl yf (fun b1 => ?_))
 refine zA ?_
 refine zA ?_
 refine zA ?_
 refine LO_nil ?_
 refine W_seq ?_
 refine W_seq (W_reg ?_)
 refine yR (ov_fieldAddr rfl rfl fa31_4 rfl) ?_
 refine yR (ov_load rfl rfl ye ⟨trivial, yn⟩ rfl rfl tok5) ?_
 refine yR (ov_gtr rfl rfl rfl) ?_
 refine yM ?_
 refine yG (fun hg => OpX.v (ov_fieldAddr rfl rfl fa31_0 rfl)) ?_
 refine yG (fun hg => OpX.v (ov_load rfl (look_gv rfl (bq hg)) ye ⟨trivial, yn⟩ rfl rfl tok5)) ?_
 refine yG (fun hg => yV rfl rfl (looks_cons (look_gv rfl (bq hg)) looks_nil) Tryz.call87 (by apply c_ref07_Castles <;> exact yz)) ?_
 refine yG (fun hg => OpX.v (ov_not rfl (look_gv rfl (bq hg)))) ?_
 refine yR (ov_or rfl rfl rfl rfl (fun h => bq h)) ?_
 refine RO_nil ?_
 refine W_cond rfl (fun hc1 => ?_) (fun hc1 => ?_)
 ·
  refine W_seq (W_reg ?_)
  refine yA_ ?_
  refine yA_ ?_
  refine yA_ ?_
  refine RO_nil ?_
  refine W_ret ?_
  refine ⟨trivial, yb, (ResV_tmp3q rfl rfl rfl rfl ?_)⟩
  exact xbty
 ·
  have ht1 : tu p ≤ 1 := Int.not_lt.1 (of_decide_eq_false (Bool.or_eq_false_iff.1 hc1).1)
  have ht2 := ht1
  simp only [tu] at ht2
  refine W_skip ?_
  refine W_seq (W_reg ?_)
  refine yR (ov_fieldAddr rfl rfl fa31_4 rfl) ?_
  refine yR (ov_load rfl rfl ye ⟨trivial, yn⟩ rfl rfl tok5) ?_
  refine yR (ov_convn rfl rfl Tryz.underlying5 Tryz.underlying3 ya) ?_
  refine yR (ov_mul rfl rfl rfl ya) ?_
  refine yA_ ?_
  refine RO_nil ?_
  refine W_seq (W_reg ?_)
  refine yR (ov_load rfl rfl ye trivial rfl rfl tok31) ?_
  refine yR (ov_fieldAddr rfl rfl fa31_4 rfl) ?_
  refine yR (ov_load rfl rfl ye ⟨trivial, yn⟩ rfl rfl tok5) ?_
  refine yP (yV rfl rfl rfl Tryz.call88 (by apply c_ref08_Find <;> exact yz)) ?_
  refine yA_ ?_
  refine RO_nil ?_
  refine W_seq (W_reg ?_)
  refine yR (ov_fieldAddr rfl rfl fa31_4 rfl) ?_
  refine yR (ov_load rfl rfl ye ⟨trivial, yn⟩ rfl rfl tok5) ?_
  refine yM ?_
  refine yR (ov_fieldAddr rfl rfl fa31_5 rfl) ?_
  refine yR (ov_indexAddr rfl rfl rfl Tryz.underlying28 rfl Tryz.sizeOf27 ya ya) ?_
  refine yR (ov_indexAddr rfl rfl rfl Tryz.underlying27 rfl Tryz.sizeOf26 ya ya) ?_
  refine yR (ov_load rfl rfl ye ⟨⟨⟨trivial, yn⟩, (tn ya ya)⟩, (tn ya ya)⟩ rfl rfl tok26) ?_
  refine yR (ov_convn rfl rfl Tryz.underlying26 Tryz.underlying3 ya) ?_
  refine yA_ ?_
  refine RO_nil ?_
  refine W_seq ?_
  refine W_seq (W_reg ?_)
  refine yM ?_
  refine yM ?_
  refine yR (ov_lss rfl rfl rfl) ?_
  refine yM ?_
  refine yG (fun hg => OpX.v (ov_move rfl rfl)) ?_
  refine yG (fun hg => OpX.v (ov_move rfl rfl)) ?_
  refine yG (fun hg => OpX.v (ov_add rfl (look_gv rfl (bq hg)) rfl ya)) ?_
  refine yG (fun hg => OpX.v (ov_gtr rfl (look_gv rfl (bq hg)) (look_gv rfl (bq hg)))) ?_
  refine yR (ov_or rfl rfl rfl rfl (fun h => bq h)) ?_
  refine yM ?_
  refine yG (fun hg => OpX.v (ov_move rfl rfl)) ?_
  refine yG (fun hg => OpX.v (ov_lss rfl (look_gv rfl (bq hg)) rfl)) ?_
  refine yR (ov_or rfl rfl rfl rfl (fun h => bq h)) ?_
  refine yM ?_
  refine yG (fun hg => OpX.v (ov_move rfl rfl)) ?_
  refine yG (fun hg => OpX.v (ov_gtr rfl (look_gv rfl (bq hg)) rfl)) ?_
  refine yR (ov_or rfl rfl rfl rfl (fun h => bq h)) ?_
  refine RO_nil ?_
  refine W_cond rfl (fun hc2 => ?_) (fun hc2 => ?_)
  ·
   refine W_seq (W_reg ?_)
   refine yA_ ?_
   refine yA_ ?_
   refine yA_ ?_
   refine RO_nil ?_
   refine W_ret ?_
   refine ⟨trivial, yb, (ResV_tmp3q rfl rfl rfl rfl ?_)⟩
   exact xbty
  ·
   have hkf := cast_rng hc2
   have hkf0 := hkf
   simp only [castF, rk, tu] at hkf0
   have hqq := POK_put (POK_put hp (find p (tu p) 6) (v := 0) yd yd) (56 * tu p + (castF p side)) (v := 0) yd yd
   have hqw := hqq.wf
   have hqb := hqq.board
   refine W_skip ?_
   refine W_seq (W_reg ?_)
   refine yM ?_
   refine yM ?_
   refine yR (ov_add rfl rfl rfl ya) ?_
   refine yA_ ?_
   refine RO_nil ?_
   refine W_seq ?_
   refine W_seq (W_reg ?_)
   refine yR (ov_load rfl rfl ye trivial rfl rfl tok31) ?_
   refine yM ?_
   refine yR (ov_fieldAddr rfl rfl fa31_4 rfl) ?_
   refine yR (ov_load rfl rfl ye ⟨trivial, yn⟩ rfl rfl tok5) ?_
   refine yP (yV rfl rfl rfl Tryz.call89 (by apply c_ref08_Is <;> exact yz)) ?_
   refine yR (ov_not rfl rfl) ?_
   refine yM ?_
   refine yG (fun hg => OpX.v (ov_move rfl rfl)) ?_
   refine yG (fun hg => OpX.v (ov_eql rfl (look_gv rfl (bq hg)) rfl)) ?_
   refine yG (fun hg => OpX.v (ov_move rfl (look_gv rfl (bq hg)))) ?_
   refine RO_g rfl rfl rfl rfl rfl yd (fun hg1 hg2 => OpX.v (ov_move rfl rfl)) ?_
   refine RO_g rfl rfl rfl rfl rfl yd (fun hg1 hg2 => OpX.v (ov_move rfl rfl)) ?_
   refine RO_g rfl rfl rfl rfl rfl yd (fun hg1 hg2 => OpX.v (ov_lss rfl (look_gv rfl (bq2 hg1 hg2)) (look_gv rfl (bq2 hg1 hg2)))) ?_
   refine yG (fun hg => OpX.v (ov_and rfl (look_gv rfl (bq hg)) rfl rfl (fun h => bq2 (bq hg) h))) ?_
   refine yR (ov_or rfl rfl rfl rfl (fun h => bq h)) ?_
   refine yM ?_
   refine yG (fun hg => OpX.v (ov_move rfl rfl)) ?_
   refine yG (fun hg => OpX.v (ov_eql rfl (look_gv rfl (bq hg)) rfl)) ?_
   refine yG (fun hg => OpX.v (ov_move rfl (look_gv rfl (bq hg)))) ?_
   refine RO_g rfl rfl rfl rfl rfl yd (fun hg1 hg2 => OpX.v (ov_move rfl rfl)) ?_
   refine RO_g rfl rfl rfl rfl rfl yd (fun hg1 hg2 => OpX.v (ov_move rfl rfl)) ?_
   refine RO_g rfl rfl rfl rfl rfl yd (fun hg1 hg2 => OpX.v (ov_gtr rfl (look_gv rfl (bq2 hg1 hg2)) (look_gv rfl (bq2 hg1 hg2)))) ?_
   refine yG (fun hg => OpX.v (ov_and rfl (look_gv rfl (bq hg)) rfl rfl (fun h => bq2 (bq hg) h))) ?_
   refine yR (ov_or rfl rfl rfl rfl (fun h => bq h)) ?_
   refine RO_nil ?_
   refine W_cond rfl (fun hc3 => ?_) (fun hc3 => ?_)
   ·
    refine W_seq (W_reg ?_)
    refine yA_ ?_
    refine yA_ ?_
    refine yA_ ?_
    refine RO_nil ?_
    refine W_ret ?_
    refine ⟨trivial, yb, (ResV_tmp3q rfl rfl rfl rfl ?_)⟩
    exact xbty
   ·
    refine W_skip ?_
    refine W_seq (W_reg ?_)
    refine yM ?_
    refine yP (yV rfl rfl rfl Tryz.call174 (by apply c_ref14_Goals <;> exact yz)) ?_
    refine yM ?_
    refine yR (ov_extract rfl rfl rfl) ?_
    refine yR (ov_extract rfl rfl rfl) ?_
    refine yA_ ?_
    refine yA_ ?_
    refine RO_nil ?_
    refine W_seq (W_regl fun w0 => ?_)
    refine yL (ov_load rfl rfl ye trivial rfl rfl tok31) ?_
    refine LO_l rfl (by decide : 13 < 138) (ol_alloc (t := posT) rfl tok31 yf (fun b2 => ?_))
    refine LO_l rfl trivial (ol_sw0 rfl rfl rfl rfl yf tok31 ?_)
    refine LO_nil ?_
    refine W_seq (W_regl fun w0 => ?_)
    refine zM ?_
    refine yL (ov_fieldAddr rfl rfl fa31_1 rfl) ?_
    refine yL (ov_indexAddr rfl rfl rfl Tryz.underlying22 rfl Tryz.sizeOf5 ya ya) ?_
    refine LO_l rfl trivial (ol_st0 rfl rfl rfl ⟨⟨trivial, yn⟩, (tn ya ya)⟩ rfl yf tok5 ?_)
    refine LO_nil ?_
    refine W_seq (W_regl fun w0 => ?_)
    refine zM ?_
    refine yL (ov_fieldAddr rfl rfl fa31_1 rfl) ?_
    refine yL (ov_indexAddr rfl rfl rfl Tryz.underlying22 rfl Tryz.sizeOf5 ya ya) ?_
    refine LO_l rfl trivial (ol_st0 rfl rfl rfl ⟨⟨trivial, yn⟩, (tn ya ya)⟩ rfl yf tok5 ?_)
    refine LO_nil ?_
    refine W_seq ?_
    refine W_seq (W_reg ?_)
    refine yM ?_
    refine yA_ ?_
    refine RO_nil ?_
    refine W_block ?_
    refine W_loop (σ := Nat) (fun i => i ≤ 8 ∧ okTo (badR p side) i = true) (fun i => [(13, ptrv b2 posT []), (7, .int .i64 (56 * tu p)), (8, .int .i64 (find p (tu p) 6)), (10, .int .i64 (56 * tu p + castF p side)), (11, .int .i64 (goR side).1), (12, .int .i64 (goR side).2), (14, .int .i64 (56 * tu p + (i : Int)))]) (fun i => .box b2 31 posT (takeQ p side) :: .box b1 31 posT p :: M) (fun i => 8 - i) (0) ⟨by omega, rfl⟩ ⟨rfl, rfl, rfl, rfl, rfl, rfl, congrArg some (val_int (by simp only [tu]; omega)), trivial⟩ yb ?_
    rintro i ⟨hI, hN⟩
    refine W_seq ?_
    refine W_seq (W_reg ?_)
    refine yM ?_
    refine yM ?_
    refine yR (ov_add rfl rfl rfl ya) ?_
    refine yR (ov_lss rfl rfl rfl) ?_
    refine RO_nil ?_
    refine W_cond rfl (fun hc4 => ?_) (fun hc4 => ?_)
    ·
     have hi8 : i < 8 := by have := of_decide_eq_true hc4; omega
     refine W_skip ?_
     refine W_seq ?_
     refine W_block ?_
     refine W_seq (W_reg ?_)
     refine yM ?_
     refine yM ?_
     refine yM ?_
     refine yM ?_
     refine yR (ov_add rfl rfl rfl ya) ?_
     refine yP (yV rfl rfl rfl Tryz.call178 (by apply c_ref14_within <;> exact yz)) ?_
     refine yA_ ?_
     refine RO_nil ?_
     refine W_seq (W_reg ?_)
     refine yM ?_
     refine yM ?_
     refine yG (fun hg => OpX.v (ov_move rfl rfl)) ?_
     refine yG (fun hg => OpX.v (ov_move rfl rfl)) ?_
     refine yG (fun hg => OpX.v (ov_move rfl rfl)) ?_
     refine yG (fun hg => OpX.v (ov_move rfl rfl)) ?_
     refine yG (fun hg => OpX.v (ov_add rfl (look_gv rfl (bq hg)) (look_gv rfl (bq hg)) ya)) ?_
     refine yG (fun hg => yV rfl rfl (looks_cons (look_gv rfl (bq hg)) (looks_cons (look_gv rfl (bq hg)) (looks_cons (look_gv rfl (bq hg)) looks_nil))) Tryz.call178 (by apply c_ref14_within <;> exact yz)) ?_
     refine yR (ov_or rfl rfl rfl rfl (fun h => bq h)) ?_
     refine yM ?_
     refine yG (fun hg => OpX.v (ov_move rfl rfl)) ?_
     refine yG (fun hg => OpX.v (ov_fieldAddr rfl rfl fa31_1 rfl)) ?_
     refine yG (fun hg => OpX.v (ov_indexAddr rfl (look_gv rfl (bq hg)) (look_gv rfl (bq hg)) Tryz.underlying22 rfl Tryz.sizeOf5 ya ya)) ?_
     refine yG (fun hg => OpX.v (ov_load rfl (look_gv rfl (bq hg)) ye ⟨⟨trivial, yn⟩, (tn ya ya)⟩ rfl rfl tok5)) ?_
     refine yG (fun hg => yV rfl rfl (looks_cons (look_gv rfl (bq hg)) looks_nil) Tryz.call84 (c_ref08_Kind _ _ (hqb _).1 (hqb _).2)) ?_
     refine yG (fun hg => OpX.v (ov_neq rfl (look_gv rfl (bq hg)) rfl)) ?_
     refine yR (ov_and rfl rfl rfl rfl (fun h => bq h)) ?_
     refine yM ?_
     refine yG (fun hg => OpX.v (ov_move rfl rfl)) ?_
     refine yG (fun hg => OpX.v (ov_move rfl (look_gv rfl (bq hg)))) ?_
     refine RO_g rfl rfl rfl rfl rfl yd (fun hg1 hg2 => OpX.v (ov_load rfl rfl ye trivial rfl rfl tok31)) ?_
     refine RO_g rfl rfl rfl rfl rfl yd (fun hg1 hg2 => OpX.v (ov_move rfl rfl)) ?_
     refine RO_g rfl rfl rfl rfl rfl yd (fun hg1 hg2 => yV rfl rfl (looks_cons (look_gv rfl (bq2 hg1 hg2)) (looks_cons (look_gv rfl (bq2 hg1 hg2)) looks_nil)) Tryz.call179 (c_ref14_safe _ hqq _ _ ht1 (by simp only [tu]; omega) (by simp only [tu]; omega))) ?_
     refine RO_g rfl rfl rfl rfl rfl yd (fun hg1 hg2 => OpX.v (ov_not rfl (look_gv rfl (bq2 hg1 hg2)))) ?_
     refine yG (fun hg => OpX.v (ov_and rfl (look_gv rfl (bq hg)) rfl rfl (fun h => bq2 (bq hg) h))) ?_
     refine yR (ov_or rfl rfl rfl rfl (fun h => bq h)) ?_
     refine RO_nil ?_
     refine W_cond rfl (fun hc5 => ?_) (fun hc5 => ?_)
     ·
      refine W_seq (W_reg ?_)
      refine yA_ ?_
      refine yA_ ?_
      refine yA_ ?_
      refine RO_nil ?_
      refine W_ret ?_
      refine ⟨trivial, yb, (ResV_tmp3q rfl rfl rfl rfl ?_)⟩
      exact xbty
     ·
      refine W_skip ?_
      refine W_reg ?_
      refine yM ?_
      refine yR (ov_add rfl rfl rfl ya) ?_
      refine yA_ ?_
      refine RO_nil ?_
      exact ⟨i + 1, yo, ⟨by omega, okTo_next hN hc5⟩, ⟨rfl, rfl, rfl, rfl, rfl, rfl, congrArg some (val_int (by simp only [tu]; omega)), trivial⟩, yb⟩
    ·
     refine W_exit ?_
     refine W_seq (W_reg ?_)
     refine yM ?_
     refine yM ?_
     refine yA_ ?_
     refine yA_ ?_
     refine yA_ ?_
     refine RO_nil ?_
     refine W_ret ?_
     refine ⟨trivial, yb, (ResV_tmp3q rfl rfl rfl rfl ?_)⟩
     exact xbty

theorem c_ref14_List (p : Pos) (hp : POK p) (M : List Fact) : Con Tryz.prog 61 [enc posT p] M (fun u M' => M' = .row u 55 moveT (list14 p) :: M) := by
 have hb := hp.board
 have hpw := hp.wf
 have hvr := hp.vr
 have htu := hp.tu
 have hpg := hp.pg
 have hvr0 := hp.vr
 have htu0 := hp.tu
 simp only [vr] at hvr0
 simp only [tu] at htu0
 refine con_of_W (n := 29) Tryz.func61 rfl rfl yn ?_
 refine W_seq (W_regl fun w0 => ?_)
 refine LO_l rfl (by decide : 1 < 29) (ol_box (t := posT) rfl rfl rfl yf (fun b1 => ?_))
 refine zA ?_
 refine LO_nil ?_
 refine W_seq ?_
 refine W_row 55 moveT ?_
 refine W_reg ?_
 refine yA_ ?_
 refine RO_nil ?_
 refine W_seq ?_
 refine W_seq (W_reg ?_)
 refine yA_ ?_
 refine RO_nil ?_
 refine W_block ?_
 refine W_loop (σ := Nat × Value) (fun s => s.1 ≤ 2) (fun s => [(1, ptrv b1 posT []), (4, .int .i64 (1 - (s.1 : Int))), (3, s.2)]) (fun s => .row s.2 55 moveT (outR p s.1) :: .box b1 31 posT p :: M) (fun s => 2 - s.1) ((0, .slice none 0 0)) (by simp) ⟨rfl, rfl, rfl, trivial⟩ yb ?_
 rintro ⟨i, v⟩ hI
 simp only at hI
 have hol := outR_len p i
 have hmr := mayC_rng hp (1 - (i : Int))
 refine W_seq ?_
 refine W_seq (W_reg ?_)
 refine yM ?_
 refine yR (ov_geq rfl rfl rfl) ?_
 refine RO_nil ?_
 refine W_cond rfl (fun hc1 => ?_) (fun hc1 => ?_)
 ·
  try simp only [yS] at hc1
  refine W_skip ?_
  refine W_seq ?_
  refine W_block ?_
  refine W_seq (W_reg ?_)
  refine yR (ov_load rfl rfl ye trivial rfl rfl tok31) ?_
  refine yM ?_
  refine yP (yV rfl rfl rfl Tryz.call135 (c_ref14_May p hp (1 - (i : Int)) _ yo yo)) ?_
  refine yM ?_
  refine yR (ov_extract rfl rfl rfl) ?_
  refine yR (ov_extract rfl rfl rfl) ?_
  refine yR (ov_extract rfl rfl rfl) ?_
  refine yA_ ?_
  refine yA_ ?_
  refine yA_ ?_
  refine RO_nil ?_
  refine W_seq (W_reg ?_)
  refine yM ?_
  refine RO_nil ?_
  refine W_cond rfl (fun hc2 => ?_) (fun hc2 => ?_)
  ·
   refine W_regl (fun w0 => ?_)
   refine zM ?_
   refine zM ?_
   refine yL (ov_convn rfl rfl Tryz.underlying3 Tryz.underlying26 ya) ?_
   refine zM ?_
   refine yL (ov_convn rfl rfl Tryz.underlying3 Tryz.underlying26 ya) ?_
   refine yL (ov_build (fs := fs54) (ds := [⟨0, _⟩, ⟨1, _⟩, ⟨4, _⟩]) rfl rfl bl55 ⟨yn, yf, ⟨yn, yf, ⟨yn, yf, trivial⟩⟩⟩ rfl) ?_
   refine LO_l rfl (by decide : 26 < 29) (ol_buildSlice (t := moveT) (xs := [_]) rfl rfl rfl Tryz.underlying48 tok55 xafy yd yd yd (fun v1 => ?_))
   refine LO_l rfl (by decide : 27 < 29) (ol_ap1 (t := moveT) rfl rfl rfl xaby ap48 xahy xahy (fun v2 => ?_))
   refine zA ?_
   refine LO_nil ?_
   refine W_reg ?_
   refine yM ?_
   refine yR (ov_sub rfl rfl rfl ya) ?_
   refine yA_ ?_
   refine RO_nil ?_
   exact ⟨(i + 1, _), xaly, xaly, ⟨rfl, congrArg some (val_int yo), rfl, trivial⟩, (by first | (rw [outR_yes yA]; exact yb) | (rw [outR_no yA]; exact yb))⟩
  ·
   refine W_skip ?_
   refine W_reg ?_
   refine yM ?_
   refine yR (ov_sub rfl rfl rfl ya) ?_
   refine yA_ ?_
   refine RO_nil ?_
   exact ⟨(i + 1, _), xaly, xaly, ⟨rfl, congrArg some (val_int yo), rfl, trivial⟩, (by first | (rw [outR_yes yA]; exact yb) | (rw [outR_no yA]; exact yb))⟩
 ·
  try simp only [yS] at hc1
  refine W_exit ?_
  refine W_seq (W_reg ?_)
  refine yM ?_
  refine yA_ ?_
  refine RO_nil ?_
  refine W_ret ?_
  refine ⟨trivial, _, .row _ 55 moveT (list14 p) :: M, (ResV_tmp1 rfl rfl rfl), ?_, rfl⟩
  rw [show list14 p = outR p 2 from rfl, show 2 = i by omega]; exact yb

theorem c_ref14_Side (p : Pos) (hp : POK p) (m : Mv) (hm : MOK m) (M : List Fact) : Pure Tryz.prog 173 [enc posT p, enc moveT m] M (.int .i64 (sideR p m)) := by
 have hb := hp.board
 have hpw := hp.wf
 have hvr := hp.vr
 have htu := hp.tu
 have hpg := hp.pg
 have hvr0 := hp.vr
 have htu0 := hp.tu
 simp only [vr] at hvr0
 simp only [tu] at htu0
 have hmF := hm.f
 have hmT := hm.t
 have hmP := hm.p
 have hmD := hm.d
 have hmF0 := hm.f
 have hmT0 := hm.t
 have hmP0 := hm.p
 have hmD0 := hm.d
 simp only [mF] at hmF0
 simp only [mT] at hmT0
 simp only [mP] at hmP0
 simp only [mD] at hmD0
 have hmw := wf_move m
 refine pure_of_W (n := 65) Tryz.func173 rfl rfl yn ?_
 refine W_seq (W_regl fun w0 => ?_)
 refine LO_l rfl (by decide : 2 < 65) (ol_box (t := posT) rfl rfl rfl yf (fun b1 => ?_))
 refine LO_l rfl (by decide : 3 < 65) (ol_box (t := moveT) rfl rfl rfl yf (fun b2 => ?_))
 refine zA ?_
 refine LO_nil ?_
 refine W_seq ?_
 refine W_seq (W_reg ?_)
 refine yR (ov_fieldAddr rfl rfl fa31_4 rfl) ?_
 refine yR (ov_load rfl rfl ye ⟨trivial, yn⟩ rfl rfl tok5) ?_
 refine yR (ov_gtr rfl rfl rfl) ?_
 refine yM ?_
 refine yG (fun hg => OpX.v (ov_fieldAddr rfl rfl fa55_4 rfl)) ?_
 refine yG (fun hg => OpX.v (ov_load rfl (look_gv rfl (bq hg)) ye ⟨trivial, yn⟩ rfl rfl tok4)) ?_
 refine yG (fun hg => OpX.v (ov_not rfl (look_gv rfl (bq hg)))) ?_
 refine yR (ov_or rfl rfl rfl rfl (fun h => bq h)) ?_
 refine yM ?_
 refine yG (fun hg => OpX.v (ov_fieldAddr rfl rfl fa55_0 rfl)) ?_
 refine yG (fun hg => OpX.v (ov_load rfl (look_gv rfl (bq hg)) ye ⟨trivial, yn⟩ rfl rfl tok26)) ?_
 refine yG (fun hg => OpX.v (ov_fieldAddr rfl rfl fa55_1 rfl)) ?_
 refine yG (fun hg => OpX.v (ov_load rfl (look_gv rfl (bq hg)) ye ⟨trivial, yn⟩ rfl rfl tok26)) ?_
 refine yG (fun hg => OpX.v (ov_eql rfl (look_gv rfl (bq hg)) (look_gv rfl (bq hg)))) ?_
 refine yR (ov_or rfl rfl rfl rfl (fun h => bq h)) ?_
 refine yM ?_
 refine yG (fun hg => OpX.v (ov_fieldAddr rfl rfl fa55_0 rfl)) ?_
 refine yG (fun hg => OpX.v (ov_load rfl (look_gv rfl (bq hg)) ye ⟨trivial, yn⟩ rfl rfl tok26)) ?_
 refine yG (fun hg => OpX.v (ov_lss rfl (look_gv rfl (bq hg)) rfl)) ?_
 refine yR (ov_or rfl rfl rfl rfl (fun h => bq h)) ?_
 refine yM ?_
 refine yG (fun hg => OpX.v (ov_fieldAddr rfl rfl fa55_0 rfl)) ?_
 refine yG (fun hg => OpX.v (ov_load rfl (look_gv rfl (bq hg)) ye ⟨trivial, yn⟩ rfl rfl tok26)) ?_
 refine yG (fun hg => OpX.v (ov_gtr rfl (look_gv rfl (bq hg)) rfl)) ?_
 refine yR (ov_or rfl rfl rfl rfl (fun h => bq h)) ?_
 refine yM ?_
 refine yG (fun hg => OpX.v (ov_fieldAddr rfl rfl fa55_1 rfl)) ?_
 refine yG (fun hg => OpX.v (ov_load rfl (look_gv rfl (bq hg)) ye ⟨trivial, yn⟩ rfl rfl tok26)) ?_
 refine yG (fun hg => OpX.v (ov_lss rfl (look_gv rfl (bq hg)) rfl)) ?_
 refine yR (ov_or rfl rfl rfl rfl (fun h => bq h)) ?_
 refine yM ?_
 refine yG (fun hg => OpX.v (ov_fieldAddr rfl rfl fa55_1 rfl)) ?_
 refine yG (fun hg => OpX.v (ov_load rfl (look_gv rfl (bq hg)) ye ⟨trivial, yn⟩ rfl rfl tok26)) ?_
 refine yG (fun hg => OpX.v (ov_gtr rfl (look_gv rfl (bq hg)) rfl)) ?_
 refine yR (ov_or rfl rfl rfl rfl (fun h => bq h)) ?_
 refine yM ?_
 refine yG (fun hg => OpX.v (ov_fieldAddr rfl rfl fa55_0 rfl)) ?_
 refine yG (fun hg => OpX.v (ov_load rfl (look_gv rfl (bq hg)) ye ⟨trivial, yn⟩ rfl rfl tok26)) ?_
 refine RO_g1 rfl rfl rfl rfl rfl yd (fun hg => by have hgx := hg; (try simp only [yS] at hgx); exact OpX.v (ov_quo_pos rfl (look_gv rfl (bq hg)) rfl ya ya ya)) ?_
 refine yG (fun hg => OpX.v (ov_fieldAddr rfl rfl fa31_4 rfl)) ?_
 refine yG (fun hg => OpX.v (ov_load rfl (look_gv rfl (bq hg)) ye ⟨trivial, yn⟩ rfl rfl tok5)) ?_
 refine RO_g1 rfl rfl rfl rfl rfl yd (fun hg => by have hgx := hg; (try simp only [yS] at hgx); exact OpX.v (ov_mul rfl rfl (look_gv rfl (bq hg)) ya)) ?_
 refine RO_g1 rfl rfl rfl rfl rfl yd (fun hg => by have hgx := hg; (try simp only [yS] at hgx); exact OpX.v (ov_convn rfl (look_gv rfl (bq hg)) Tryz.underlying5 Tryz.underlying26 ya)) ?_
 refine yG (fun hg => OpX.v (ov_neq rfl (look_gv rfl (bq hg)) (look_gv rfl (bq hg)))) ?_
 refine yR (ov_or rfl rfl rfl rfl (fun h => bq h)) ?_
 refine yM ?_
 refine yG (fun hg => OpX.v (ov_fieldAddr rfl rfl fa55_1 rfl)) ?_
 refine yG (fun hg => OpX.v (ov_load rfl (look_gv rfl (bq hg)) ye ⟨trivial, yn⟩ rfl rfl tok26)) ?_
 refine RO_g1 rfl rfl rfl rfl rfl yd (fun hg => by have hgx := hg; (try simp only [yS] at hgx); exact OpX.v (ov_quo_pos rfl (look_gv rfl (bq hg)) rfl ya ya ya)) ?_
 refine yG (fun hg => OpX.v (ov_fieldAddr rfl rfl fa31_4 rfl)) ?_
 refine yG (fun hg => OpX.v (ov_load rfl (look_gv rfl (bq hg)) ye ⟨trivial, yn⟩ rfl rfl tok5)) ?_
 refine RO_g1 rfl rfl rfl rfl rfl yd (fun hg => by have hgx := hg; (try simp only [yS] at hgx); exact OpX.v (ov_mul rfl rfl (look_gv rfl (bq hg)) ya)) ?_
 refine RO_g1 rfl rfl rfl rfl rfl yd (fun hg => by have hgx := hg; (try simp only [yS] at hgx); exact OpX.v (ov_convn rfl (look_gv rfl (bq hg)) Tryz.underlying5 Tryz.underlying26 ya)) ?_
 refine yG (fun hg => OpX.v (ov_neq rfl (look_gv rfl (bq hg)) (look_gv rfl (bq hg)))) ?_
 refine yR (ov_or rfl rfl rfl rfl (fun h => bq h)) ?_
 refine RO_nil ?_
 refine W_cond rfl (fun hc1 => ?_) (fun hc1 => ?_)
 ·
  refine W_seq (W_reg ?_)
  refine yA_ ?_
  refine RO_nil ?_
  refine W_ret ?_
  refine ⟨trivial, yb, (ResV_tmp1 rfl rfl ?_)⟩
  exact xbuy
 ·
  refine W_skip ?_
  refine W_seq ?_
  refine W_seq (W_reg ?_)
  refine yR (ov_fieldAddr rfl rfl fa55_1 rfl) ?_
  refine yR (ov_load rfl rfl ye ⟨trivial, yn⟩ rfl rfl tok26) ?_
  refine yR (ov_fieldAddr rfl rfl fa55_0 rfl) ?_
  refine yR (ov_load rfl rfl ye ⟨trivial, yn⟩ rfl rfl tok26) ?_
  refine yR (ov_gtr rfl rfl rfl) ?_
  refine RO_nil ?_
  refine W_cond rfl (fun hc2 => ?_) (fun hc2 => ?_)
  ·
   refine W_seq (W_reg ?_)
   refine yA_ ?_
   refine RO_nil ?_
   refine W_ret ?_
   refine ⟨trivial, yb, (ResV_tmp1 rfl rfl ?_)⟩
   exact xbuy
  ·
   refine W_skip ?_
   refine W_seq (W_reg ?_)
   refine yA_ ?_
   refine RO_nil ?_
   refine W_ret ?_
   refine ⟨trivial, yb, (ResV_tmp1 rfl rfl ?_)⟩
   exact xbuy
end Go.Kw
set_option linter.unusedVariables false
set_option linter.unusedSimpArgs false
namespace Go.Kw
open Go.Proofs


def dBad (p : Pos) (kd s : Int) : Bool := !decide (kind (pb p s) = 0) || (decide (kd = 1) && (decide (s < 8) || decide (55 < s)))
def dOne (p : Pos) (kd : Int) (s : Nat) : List Mv := if dBad p kd (s : Int) = true then [] else [dropM kd (s : Int)]
def dAll (p : Pos) (kd : Int) (j : Nat) : List Mv := (List.range j).flatMap (dOne p kd)
def dKind (p : Pos) (kd : Int) : List Mv := if 0 < pkAt p (tu p) kd then dAll p kd 64 else []
def dO (p : Pos) (i : Nat) : List Mv := (List.range i).flatMap fun k : Nat => dKind p ((k : Int) + 1)
def dJ (p : Pos) (i j : Nat) : List Mv := dO p i ++ dAll p ((i : Int) + 1) j
def list15 (p : Pos) : List Mv := if (decide (1 < tu p) || !decide (vr p = 2)) = true then [] else dO p 5
theorem list15_n {p : Pos} (h : (decide (1 < tu p) || !decide (vr p = 2)) = true) : list15 p = [] := if_pos h
theorem list15_y {p : Pos} (h : (decide (1 < tu p) || !decide (vr p = 2)) = false) : list15 p = dO p 5 := if_neg xawy
theorem dJ_0 (p : Pos) (i : Nat) : dJ p i 0 = dO p i := by unfold dJ dAll; simp
theorem dAll_next (p : Pos) (kd : Int) (j : Nat) : dAll p kd (j + 1) = dAll p kd j ++ dOne p kd j := range_flat _ _
theorem dJ_no (p : Pos) (i j : Nat) (h : dBad p ((i : Int) + 1) (j : Int) = true) : dJ p i (j + 1) = dJ p i j := by
  unfold dJ; rw [dAll_next, dOne, if_pos h, List.append_nil]
theorem dJ_yes (p : Pos) (i j : Nat) (h : dBad p ((i : Int) + 1) (j : Int) = false) : dJ p i (j + 1) = dJ p i j ++ [dropM ((i : Int) + 1) (j : Int)] := by
  unfold dJ; rw [dAll_next, dOne, if_neg xawy, List.append_assoc]
theorem dJ_end (p : Pos) (i j : Nat) (h1 : j ≤ 64) (h2 : 0 < j → 0 < pkAt p (tu p) ((i : Int) + 1)) (h : (decide (((j : Nat) : Int) < 64) && decide (0 < pkAt p (tu p) ((i : Int) + 1))) = false) : dJ p i j = dO p (i + 1) := by
  unfold dJ dO; rw [range_flat]
  congr 1
  unfold dKind
  split
  · rename_i hk
    rw [show decide (0 < pkAt p (tu p) ((i : Int) + 1)) = true from decide_eq_true hk, Bool.and_true] at h
    have := of_decide_eq_false h
    rw [show j = 64 by omega]
  · rename_i hk
    rw [show j = 0 by rcases Nat.eq_zero_or_pos j with h | h; exact h; exact absurd (h2 h) hk]; rfl
theorem dAll_len (p : Pos) (kd : Int) (j : Nat) : (dAll p kd j).length ≤ j * 1 := range_len _ 1 (fun s => by unfold dOne; split <;> simp) j
theorem dO_len (p : Pos) (i : Nat) : (dO p i).length ≤ i * 64 := range_len _ 64 (fun k => by
  unfold dKind; split
  · exact dAll_len p _ 64
  · exact Nat.zero_le _) i
theorem dJ_len (p : Pos) (i j : Nat) (hi : i ≤ 5) (hj : j ≤ 64) : (dJ p i j).length ≤ 400 := by
  have h1 := dO_len p i
  have h2 := dAll_len p ((i : Int) + 1) j
  unfold dJ; rw [List.length_append]; omega
theorem list13_len (p : Pos) : (list13 p).length ≤ 20480 := by
  unfold list13; split
  · exact Nat.zero_le _
  · exact listI_len p 64
theorem list14_len (p : Pos) : (list14 p).length ≤ 2 := outR_len p 2
theorem list15_len (p : Pos) : (list15 p).length ≤ 320 := by
  unfold list15; split
  · exact Nat.zero_le _
  · exact dO_len p 5
theorem ndec {P : Prop} [Decidable P] (h : (!decide P) = true) : ¬ P := by simpa using h
def allR (p : Pos) : List Mv := (list13 p ++ list14 p) ++ list15 p
structure LMv (p : Pos) (m : Mv) : Prop where
  t : tu p ≤ 1
  f : 0 ≤ mF m ∧ mF m < 64
  to : 0 ≤ mT m ∧ mT m < 64
  pr : 0 ≤ mP m ∧ mP m ≤ 7
  d : ¬ mD m = 0 → (1 ≤ mD m ∧ mD m ≤ 5) ∧ 1 ≤ pkAt p (tu p) (mD m)
def men3r (p q : Pos) (m : Mv) : Pos := if (!decide (mP m = 0)) = true then putB q (mT m) (8 * tu p + mP m) else q
def menR (p : Pos) (m : Mv) (tk : Int) : Pos :=
  if mC m = true then putB (putB (putB (putB p (mF m) 0) (mT m) 0) (56 * tu p + (goR (sideR p m)).1) (pb p (mF m))) (56 * tu p + (goR (sideR p m)).2) (pb p (mT m))
  else if (!decide (mD m = 0)) = true then putB (setPk p (tu p) (mD m) (pkAt p (tu p) (mD m) - 1)) (mT m) (8 * tu p + mD m)
  else men3r p (men2 (men1 p tk) p m) m
theorem POK_men1 {q : Pos} (hq : POK q) (tk : Int) : POK (men1 q tk) := by
  unfold men1; split
  · exact POK_put hq _ yd yd
  · exact hq
theorem POK_men2 {q was : Pos} (hq : POK q) (hw : POK was) (m : Mv) : POK (men2 q was m) :=
  POK_put (POK_put hq _ yd yd) _ (hw.board _).1 (hw.board _).2
theorem POK_men3r {p q : Pos} {m : Mv} (hp : POK p) (hm : MOK m) (hL : LMv p m) (hq : POK q) : POK (men3r p q m) := by
  unfold men3r; split
  · have h1 := hp.tu
    have h2 := hL.t
    have h3 := hL.pr
    exact POK_put hq _ yo yo
  · exact hq
theorem pkt1_rng (p : Pos) (tk : Int) : 0 ≤ pkt1 p tk ∧ pkt1 p tk ≤ 255 := by
  unfold pkt1; split
  · exact ⟨by decide, by decide⟩
  · exact kind_rng _
def pk2 (p q : Pos) (tk : Int) : Pos := if decide (0 ≤ tk) = true then (if ((decide (1 ≤ pkt1 p tk) && decide (pkt1 p tk ≤ 5)) && decide (pkAt q (tu p) (pkt1 p tk) < 255)) = true then setPk q (tu p) (pkt1 p tk) (pkAt q (tu p) (pkt1 p tk) + 1) else q) else q
theorem POK_pk2 {p q : Pos} (hq : POK q) (tk : Int) : POK (pk2 p q tk) := by
  have h := pkAt_rng hq (tu p) (pkt1 p tk)
  unfold pk2; split
  · split
    · rename_i hn
      have := of_decide_eq_true (Bool.and_eq_true_iff.1 hn).2
      exact POK_setPk hq _ _ yo yo
    · exact hq
  · exact hq
def markF (p : Pos) (m : Mv) (tk : Int) (i : Nat) : Bool := (bitAt (pm p) (i : Int) && !decide ((i : Int) = tk)) && !decide ((i : Int) = mF m)
def mk2 (p : Pos) (m : Mv) (tk : Int) : BitVec 64 := if (!decide (mP m = 0) || bitAt (pm p) (mF m)) = true then setOf (markF p m tk) 64 ||| shlB (mT m) else setOf (markF p m tk) 64
def pocketR (p q : Pos) (m : Mv) (tk : Int) : Pos :=
  if (!decide (vr p = 2) || !decide (mD m = 0)) = true then q
  else if mC m = true then (if bitAt (pm p) (mT m) = true then setPm (setPm q (pm p &&& ~~~shlB (mT m))) ((pm p &&& ~~~shlB (mT m)) ||| shlB (56 * tu p + (goR (sideR p m)).2)) else q)
  else setPm (pk2 p q tk) (mk2 p m tk)
def blF (p : Pos) (s : Int) (i : Nat) : Bool := decide ((i : Int) = s) || ((beside (i : Int) s && !decide (kind (pb p (i : Int)) = 0)) && !decide (kind (pb p (i : Int)) = 1))
def blownR (p : Pos) (s : Int) : BitVec 64 := setOf (blF p s) 64

theorem c_ref15_List (p : Pos) (hp : POK p) (M : List Fact) : Con Tryz.prog 62 [enc posT p] M (fun u M' => M' = .row u 55 moveT (list15 p) :: M) := by
 have hb := hp.board
 have hpw := hp.wf
 have hvr := hp.vr
 have htu := hp.tu
 have hpg := hp.pg
 have hvr0 := hp.vr
 have htu0 := hp.tu
 simp only [vr] at hvr0
 simp only [tu] at htu0
 refine con_of_W (n := 61) Tryz.func62 rfl rfl yn ?_
 refine W_seq (W_regl fun w0 => ?_)
 refine LO_l rfl (by decide : 1 < 61) (ol_box (t := posT) rfl rfl rfl yf (fun b1 => ?_))
 refine zA ?_
 refine LO_nil ?_
 refine W_seq ?_
 refine W_row 55 moveT ?_
 refine W_reg ?_
 refine yA_ ?_
 refine RO_nil ?_
 refine W_seq ?_
 refine W_seq (W_reg ?_)
 refine yR (ov_fieldAddr rfl rfl fa31_4 rfl) ?_
 refine yR (ov_load rfl rfl ye ⟨trivial, yn⟩ rfl rfl tok5) ?_
 refine yR (ov_gtr rfl rfl rfl) ?_
 refine yM ?_
 refine yG (fun hg => OpX.v (ov_fieldAddr rfl rfl fa31_0 rfl)) ?_
 refine yG (fun hg => OpX.v (ov_load rfl (look_gv rfl (bq hg)) ye ⟨trivial, yn⟩ rfl rfl tok5)) ?_
 refine yG (fun hg => OpX.v (ov_neq rfl (look_gv rfl (bq hg)) rfl)) ?_
 refine yR (ov_or rfl rfl rfl rfl (fun h => bq h)) ?_
 refine RO_nil ?_
 refine W_cond rfl (fun hc1 => ?_) (fun hc1 => ?_)
 ·
  refine W_seq (W_reg ?_)
  refine yM ?_
  refine yA_ ?_
  refine RO_nil ?_
  refine W_ret ?_
  refine ⟨trivial, _, .row _ 55 moveT (list15 p) :: M, (ResV_tmp1 rfl rfl rfl), ?_, rfl⟩
  first | (rw [list15_n hc1]; exact yb) | (rw [list15_y hc1, show 5 = i by omega]; exact yb)
 ·
  have ht1 : tu p ≤ 1 := Int.not_lt.1 (of_decide_eq_false (Bool.or_eq_false_iff.1 hc1).1)
  have ht2 := ht1
  simp only [tu] at ht2
  refine W_skip ?_
  refine W_seq ?_
  refine W_seq (W_reg ?_)
  refine yA_ ?_
  refine RO_nil ?_
  refine W_block ?_
  refine W_loop (σ := Nat × Value) (fun s => s.1 ≤ 5) (fun s => [(1, ptrv b1 posT []), (4, .int .u8 ((s.1 : Int) + 1)), (3, s.2)]) (fun s => .row s.2 55 moveT (dO p s.1) :: .box b1 31 posT p :: M) (fun s => 5 - s.1) ((0, .slice none 0 0)) (by simp) ⟨rfl, rfl, rfl, trivial⟩ yb ?_
  rintro ⟨i, v⟩ hI
  simp only at hI
  refine W_seq ?_
  refine W_seq (W_reg ?_)
  refine yM ?_
  refine yR (ov_leq rfl rfl rfl) ?_
  refine RO_nil ?_
  refine W_cond rfl (fun hc2 => ?_) (fun hc2 => ?_)
  ·
   try simp only [yS] at hc2
   have hpr := pkAt_rng hp (tu p) ((i : Int) + 1)
   have hpr0 := hpr
   simp only [pkAt, pk, tu] at hpr0
   refine W_skip ?_
   refine W_seq ?_
   refine W_block ?_
   refine W_seq (W_reg ?_)
   refine yA_ ?_
   refine RO_nil ?_
   refine W_block ?_
   refine W_loop (σ := Nat × Value) (fun s => s.1 ≤ 64 ∧ (0 < s.1 → 0 < pkAt p (tu p) ((i : Int) + 1))) (fun s => [(1, ptrv b1 posT []), (4, .int .u8 ((i : Int) + 1)), (5, .int .i64 (s.1 : Int)), (3, s.2)]) (fun s => .row s.2 55 moveT (dJ p i s.1) :: .box b1 31 posT p :: M) (fun s => 64 - s.1) ((0, v)) ⟨by simp, fun h => absurd h (by simp)⟩ ⟨rfl, rfl, rfl, rfl, trivial⟩ (by show List.Sublist (Fact.row v 55 moveT (dJ p i 0) :: _) _; rw [dJ_0]; exact yb) ?_
   rintro ⟨j, v5⟩ hJ
   simp only at hJ
   refine W_seq ?_
   refine W_seq (W_reg ?_)
   refine yM ?_
   refine yR (ov_lss rfl rfl rfl) ?_
   refine yM ?_
   refine yG (fun hg => OpX.v (ov_fieldAddr rfl rfl fa31_4 rfl)) ?_
   refine yG (fun hg => OpX.v (ov_load rfl (look_gv rfl (bq hg)) ye ⟨trivial, yn⟩ rfl rfl tok5)) ?_
   refine yG (fun hg => OpX.v (ov_move rfl rfl)) ?_
   refine yG (fun hg => OpX.v (ov_fieldAddr rfl rfl fa31_3 rfl)) ?_
   refine yG (fun hg => OpX.v (ov_indexAddr rfl (look_gv rfl (bq hg)) (look_gv rfl (bq hg)) Tryz.underlying25 rfl Tryz.sizeOf24 ya ya)) ?_
   refine yG (fun hg => OpX.v (ov_indexAddr rfl (look_gv rfl (bq hg)) (look_gv rfl (bq hg)) Tryz.underlying24 rfl Tryz.sizeOf5 ya ya)) ?_
   refine yG (fun hg => OpX.v (ov_load rfl (look_gv rfl (bq hg)) ye ⟨⟨⟨trivial, yn⟩, (tn ya ya)⟩, (tn ya ya)⟩ rfl rfl tok5)) ?_
   refine yG (fun hg => OpX.v (ov_gtr rfl (look_gv rfl (bq hg)) rfl)) ?_
   refine yR (ov_and rfl rfl rfl rfl (fun h => bq h)) ?_
   refine RO_nil ?_
   refine W_cond rfl (fun hc3 => ?_) (fun hc3 => ?_)
   ·
    have hj64 : j < 64 := by have := of_decide_eq_true (Bool.and_eq_true_iff.1 hc3).1; omega
    have hpk := of_decide_eq_true (Bool.and_eq_true_iff.1 hc3).2
    have hpk1 : 0 < pkAt p (tu p) ((i : Int) + 1) := hpk
    have hjl := dJ_len p i j yo yo
    refine W_skip ?_
    refine W_seq ?_
    refine W_block ?_
    refine W_seq ?_
    refine W_seq (W_reg ?_)
    refine yM ?_
    refine yR (ov_fieldAddr rfl rfl fa31_1 rfl) ?_
    refine yR (ov_indexAddr rfl rfl rfl Tryz.underlying22 rfl Tryz.sizeOf5 ya ya) ?_
    refine yR (ov_load rfl rfl ye ⟨⟨trivial, yn⟩, (tn ya ya)⟩ rfl rfl tok5) ?_
    refine yP (yV rfl rfl rfl Tryz.call84 xaqy) ?_
    refine yR (ov_neq rfl rfl rfl) ?_
    refine yM ?_
    refine yG (fun hg => OpX.v (ov_move rfl rfl)) ?_
    refine yG (fun hg => OpX.v (ov_eql rfl (look_gv rfl (bq hg)) rfl)) ?_
    refine yG (fun hg => OpX.v (ov_move rfl (look_gv rfl (bq hg)))) ?_
    refine RO_g rfl rfl rfl rfl rfl yd (fun hg1 hg2 => OpX.v (ov_move rfl rfl)) ?_
    refine RO_g rfl rfl rfl rfl rfl yd (fun hg1 hg2 => OpX.v (ov_lss rfl (look_gv rfl (bq2 hg1 hg2)) rfl)) ?_
    refine RO_g rfl rfl rfl rfl rfl yd (fun hg1 hg2 => OpX.v (ov_move rfl (look_gv rfl (bq2 hg1 hg2)))) ?_
    refine RO_g rfl rfl rfl rfl rfl yd (fun hg1 hg2 => OpX.v (ov_move rfl rfl)) ?_
    refine RO_g rfl rfl rfl rfl rfl yd (fun hg1 hg2 => OpX.v (ov_gtr rfl (look_gv rfl (bq2 hg1 hg2)) rfl)) ?_
    refine RO_g rfl rfl rfl rfl rfl yd (fun hg1 hg2 => OpX.v (ov_or rfl (look_gv rfl (bq2 hg1 hg2)) rfl rfl (fun h => bq2 (bq2 hg1 hg2) h))) ?_
    refine yG (fun hg => OpX.v (ov_and rfl (look_gv rfl (bq hg)) rfl rfl (fun h => bq2 (bq hg) h))) ?_
    refine yR (ov_or rfl rfl rfl rfl (fun h => bq h)) ?_
    refine RO_nil ?_
    refine W_cond rfl (fun hc4 => ?_) (fun hc4 => ?_)
    ·
     refine W_exit ?_
     refine W_reg ?_
     refine yM ?_
     refine yR (ov_add rfl rfl rfl ya) ?_
     refine yA_ ?_
     refine RO_nil ?_
     exact ⟨(j + 1, _), xaly, ⟨by simp only; omega, fun _ => hpk1⟩, ⟨rfl, rfl, rfl, rfl, trivial⟩, (by first | (rw [dJ_no p i j hc4]; exact yb) | (rw [dJ_yes p i j hc4]; exact yb))⟩
    ·
     refine W_skip ?_
     refine W_regl (fun w0 => ?_)
     refine zM ?_
     refine zM ?_
     refine yL (ov_convn rfl rfl Tryz.underlying3 Tryz.underlying26 ya) ?_
     refine zM ?_
     refine yL (ov_convn rfl rfl Tryz.underlying3 Tryz.underlying26 ya) ?_
     refine zM ?_
     refine yL (ov_build (fs := fs54) (ds := [⟨0, _⟩, ⟨1, _⟩, ⟨3, _⟩]) rfl rfl bl55 ⟨yn, yf, ⟨yn, yf, ⟨yn, yf, trivial⟩⟩⟩ rfl) ?_
     refine LO_l rfl (by decide : 58 < 61) (ol_buildSlice (t := moveT) (xs := [_]) rfl rfl rfl Tryz.underlying48 tok55 xafy yd yd yd (fun v1 => ?_))
     refine LO_l rfl (by decide : 59 < 61) (ol_ap1 (t := moveT) rfl rfl rfl xaby ap48 xahy xahy (fun v2 => ?_))
     refine zA ?_
     refine LO_nil ?_
     refine W_reg ?_
     refine yM ?_
     refine yR (ov_add rfl rfl rfl ya) ?_
     refine yA_ ?_
     refine RO_nil ?_
     exact ⟨(j + 1, _), xaly, ⟨by simp only; omega, fun _ => hpk1⟩, ⟨rfl, rfl, rfl, rfl, trivial⟩, (by first | (rw [dJ_no p i j hc4]; exact yb) | (rw [dJ_yes p i j hc4]; exact yb))⟩
   ·
    refine W_exit ?_
    refine W_reg ?_
    refine yM ?_
    refine yR (ov_add rfl rfl rfl ya) ?_
    refine yA_ ?_
    refine RO_nil ?_
    exact ⟨(i + 1, _), xaly, xaly, ⟨rfl, rfl, rfl, trivial⟩, (by rw [← dJ_end p i j hJ.1 hJ.2 hc3]; exact yb)⟩
  ·
   try simp only [yS] at hc2
   refine W_exit ?_
   refine W_seq (W_reg ?_)
   refine yM ?_
   refine yA_ ?_
   refine RO_nil ?_
   refine W_ret ?_
   refine ⟨trivial, _, .row _ 55 moveT (list15 p) :: M, (ResV_tmp1 rfl rfl rfl), ?_, rfl⟩
   first | (rw [list15_n hc1]; exact yb) | (rw [list15_y hc1, show 5 = i by omega]; exact yb)

theorem c_ref16_All (p : Pos) (hp : POK p) (M : List Fact) : Con Tryz.prog 24 [enc posT p] M (fun u M' => M' = .row u 55 moveT (allR p) :: M) := by
 have hb := hp.board
 have hpw := hp.wf
 have hvr := hp.vr
 have htu := hp.tu
 have hpg := hp.pg
 have hvr0 := hp.vr
 have htu0 := hp.tu
 simp only [vr] at hvr0
 simp only [tu] at htu0
 have hl3 := list13_len p
 have hl4 := list14_len p
 have hl5 := list15_len p
 refine con_of_W (n := 16) Tryz.func24 rfl rfl yn ?_
 refine W_seq (W_regl fun w0 => ?_)
 refine LO_l rfl (by decide : 1 < 16) (ol_box (t := posT) rfl rfl rfl yf (fun b1 => ?_))
 refine zA ?_
 refine LO_nil ?_
 refine W_seq ?_
 refine W_row 55 moveT ?_
 refine W_reg ?_
 refine yA_ ?_
 refine RO_nil ?_
 refine W_seq (W_regl fun w0 => ?_)
 refine zM ?_
 refine yL (ov_load rfl rfl ye trivial rfl rfl tok31) ?_
 refine LO_l rfl (by decide : 6 < 16) (ol_call (v0 := []) (v2 := []) rfl rfl rfl Tryz.call60 (Con.mono (by apply c_ref13_List <;> exact yz) ?_))
 rintro u3 _ rfl
 refine LO_l rfl (by decide : 7 < 16) (ol_ap1 (t := moveT) rfl rfl rfl xaby ap48 xahy xahy (fun v1 => ?_))
 refine zA ?_
 refine LO_nil ?_
 refine W_seq (W_regl fun w0 => ?_)
 refine zM ?_
 refine yL (ov_load rfl rfl ye trivial rfl rfl tok31) ?_
 refine LO_l rfl (by decide : 10 < 16) (ol_call (v0 := []) (v2 := []) rfl rfl rfl Tryz.call61 (Con.mono (by apply c_ref14_List <;> exact yz) ?_))
 rintro u4 _ rfl
 refine LO_l rfl (by decide : 11 < 16) (ol_ap2 (t := moveT) rfl rfl rfl xaby ap48 xahy xahy (fun v2 => ?_))
 refine zA ?_
 refine LO_nil ?_
 refine W_seq (W_regl fun w0 => ?_)
 refine zM ?_
 refine yL (ov_load rfl rfl ye trivial rfl rfl tok31) ?_
 refine LO_l rfl (by decide : 14 < 16) (ol_call (v0 := []) (v2 := []) rfl rfl rfl Tryz.call62 (Con.mono (by apply c_ref15_List <;> exact yz) ?_))
 rintro u5 _ rfl
 refine LO_l rfl (by decide : 15 < 16) (ol_ap3 (t := moveT) rfl rfl rfl xaby ap48 xahy xahy (fun v3 => ?_))
 refine zA ?_
 refine LO_nil ?_
 refine W_ret ?_
 refine ⟨trivial, _, .row _ 55 moveT (allR p) :: M, (ResV_tmp1 rfl rfl rfl), ?_, rfl⟩
 exact yb

theorem c_ref16_Has (b : BitVec 64) (s : Int) (M : List Fact) : Pure Tryz.prog 122 [u64v b, .int .i64 s] M (.bool (bitAt b s)) := by
 refine pure_of_W (n := 11) Tryz.func122 rfl rfl yn ?_
 refine W_seq (W_reg ?_)
 refine yA_ ?_
 refine RO_nil ?_
 refine W_seq (W_reg ?_)
 refine yM ?_
 refine yM ?_
 refine yR (ov_conv64 rfl rfl Tryz.underlying3 Tryz.underlying111) ?_
 refine yR (ov_shr64 rfl rfl rfl ya) ?_
 refine yR (ov_bits (b := 1#64) rfl rfl rfl (.inl ⟨rfl, rfl⟩)) ?_
 refine yR (ov_eql64 (b := 1#64) rfl rfl rfl) ?_
 refine yA_ ?_
 refine RO_nil ?_
 refine W_ret ?_
 refine ⟨trivial, yb, (ResV_tmp1 rfl rfl ?_)⟩
 rfl

theorem c_ref16_men (p : Pos) (hp : POK p) (m : Mv) (hm : MOK m) (tk : Int) (M : List Fact) (hL : LMv p m) (htk : -1 ≤ tk ∧ tk < 64) : Pure Tryz.prog 119 [enc posT p, enc moveT m, .int .i64 tk] M (enc posT (menR p m tk)) := by
 have hb := hp.board
 have hpw := hp.wf
 have hvr := hp.vr
 have htu := hp.tu
 have hpg := hp.pg
 have hvr0 := hp.vr
 have htu0 := hp.tu
 simp only [vr] at hvr0
 simp only [tu] at htu0
 have hmF := hm.f
 have hmT := hm.t
 have hmP := hm.p
 have hmD := hm.d
 have hmF0 := hm.f
 have hmT0 := hm.t
 have hmP0 := hm.p
 have hmD0 := hm.d
 simp only [mF] at hmF0
 simp only [mT] at hmT0
 simp only [mP] at hmP0
 simp only [mD] at hmD0
 have ht := hL.t
 have ht2 := hL.t
 simp only [tu] at ht2
 have hF := hL.f
 have hF0 := hL.f
 simp only [mF] at hF0
 have hT := hL.to
 have hT0 := hL.to
 simp only [mT] at hT0
 have hmw := wf_move m
 have hgo := goR_rng (sideR p m)
 have hPm := hL.pr
 have hPm0 := hL.pr
 simp only [mP] at hPm0
 refine pure_of_W (n := 116) Tryz.func119 rfl rfl yn ?_
 refine W_seq (W_regl fun w0 => ?_)
 refine LO_l rfl (by decide : 3 < 116) (ol_box (t := posT) rfl rfl rfl yf (fun b1 => ?_))
 refine LO_l rfl (by decide : 4 < 116) (ol_box (t := moveT) rfl rfl rfl yf (fun b2 => ?_))
 refine LO_l rfl (by decide : 6 < 116) (ol_alloc (t := posT) rfl tok31 yf (fun b3 => ?_))
 refine LO_nil ?_
 refine W_seq (W_regl fun w0 => ?_)
 refine yL (ov_load rfl rfl ye trivial rfl rfl tok31) ?_
 refine LO_l rfl (by decide : 7 < 116) (ol_alloc (t := posT) rfl tok31 yf (fun b4 => ?_))
 refine LO_l rfl trivial (ol_sw0 rfl rfl rfl rfl yf tok31 ?_)
 refine LO_nil ?_
 refine W_seq (W_reg ?_)
 refine yR (ov_fieldAddr rfl rfl fa55_0 rfl) ?_
 refine yR (ov_load rfl rfl ye ⟨trivial, yn⟩ rfl rfl tok26) ?_
 refine yR (ov_fieldAddr rfl rfl fa31_1 rfl) ?_
 refine yR (ov_indexAddr rfl rfl rfl Tryz.underlying22 rfl Tryz.sizeOf5 ya ya) ?_
 refine yR (ov_load rfl rfl ye ⟨⟨trivial, yn⟩, (tn ya ya)⟩ rfl rfl tok5) ?_
 refine yA_ ?_
 refine RO_nil ?_
 refine W_seq ?_
 refine W_block ?_
 refine W_seq (W_reg ?_)
 refine yR (ov_fieldAddr rfl rfl fa55_4 rfl) ?_
 refine yR (ov_load rfl rfl ye ⟨trivial, yn⟩ rfl rfl tok4) ?_
 refine yA_ ?_
 refine RO_nil ?_
 refine W_cond rfl (fun hc1 => ?_) (fun hc1 => ?_)
 ·
  have hw4 := (POK_put (POK_put (POK_put (POK_put hp (mF m) (v := 0) yd yd) (mT m) (v := 0) yd yd) (56 * tu p + (goR (sideR p m)).1) (v := pb p (mF m)) (hb _).1 (hb _).2) (56 * tu p + (goR (sideR p m)).2) (v := pb p (mT m)) (hb _).1 (hb _).2).wf
  refine W_seq (W_reg ?_)
  refine yR (ov_load rfl rfl ye trivial rfl rfl tok31) ?_
  refine yR (ov_load rfl rfl ye trivial rfl rfl tok55) ?_
  refine yP (yV rfl rfl rfl Tryz.call173 (c_ref14_Side p hp m hm _)) ?_
  refine yA_ ?_
  refine RO_nil ?_
  refine W_seq (W_reg ?_)
  refine yM ?_
  refine yP (yV rfl rfl rfl Tryz.call174 (by apply c_ref14_Goals <;> exact yz)) ?_
  refine yM ?_
  refine yR (ov_extract rfl rfl rfl) ?_
  refine yR (ov_extract rfl rfl rfl) ?_
  refine yA_ ?_
  refine yA_ ?_
  refine RO_nil ?_
  refine W_seq (W_reg ?_)
  refine yR (ov_fieldAddr rfl rfl fa31_4 rfl) ?_
  refine yR (ov_load rfl rfl ye ⟨trivial, yn⟩ rfl rfl tok5) ?_
  refine yR (ov_convn rfl rfl Tryz.underlying5 Tryz.underlying3 ya) ?_
  refine yR (ov_mul rfl rfl rfl ya) ?_
  refine yA_ ?_
  refine RO_nil ?_
  refine W_seq (W_reg ?_)
  refine yR (ov_fieldAddr rfl rfl fa55_1 rfl) ?_
  refine yR (ov_load rfl rfl ye ⟨trivial, yn⟩ rfl rfl tok26) ?_
  refine yR (ov_fieldAddr rfl rfl fa31_1 rfl) ?_
  refine yR (ov_indexAddr rfl rfl rfl Tryz.underlying22 rfl Tryz.sizeOf5 ya ya) ?_
  refine yR (ov_load rfl rfl ye ⟨⟨trivial, yn⟩, (tn ya ya)⟩ rfl rfl tok5) ?_
  refine yA_ ?_
  refine RO_nil ?_
  refine W_seq (W_regl fun w0 => ?_)
  refine yL (ov_fieldAddr rfl rfl fa55_0 rfl) ?_
  refine yL (ov_load rfl rfl ye ⟨trivial, yn⟩ rfl rfl tok26) ?_
  refine yL (ov_fieldAddr rfl rfl fa31_1 rfl) ?_
  refine yL (ov_indexAddr rfl rfl rfl Tryz.underlying22 rfl Tryz.sizeOf5 ya ya) ?_
  refine LO_l rfl trivial (ol_st0 rfl rfl rfl ⟨⟨trivial, yn⟩, (tn ya ya)⟩ rfl yf tok5 ?_)
  refine LO_nil ?_
  refine W_seq (W_regl fun w0 => ?_)
  refine yL (ov_fieldAddr rfl rfl fa55_1 rfl) ?_
  refine yL (ov_load rfl rfl ye ⟨trivial, yn⟩ rfl rfl tok26) ?_
  refine yL (ov_fieldAddr rfl rfl fa31_1 rfl) ?_
  refine yL (ov_indexAddr rfl rfl rfl Tryz.underlying22 rfl Tryz.sizeOf5 ya ya) ?_
  refine LO_l rfl trivial (ol_st0 rfl rfl rfl ⟨⟨trivial, yn⟩, (tn ya ya)⟩ rfl yf tok5 ?_)
  refine LO_nil ?_
  refine W_seq (W_regl fun w0 => ?_)
  refine zM ?_
  refine zM ?_
  refine yL (ov_add rfl rfl rfl ya) ?_
  refine zM ?_
  refine yL (ov_fieldAddr rfl rfl fa31_1 rfl) ?_
  refine yL (ov_indexAddr rfl rfl rfl Tryz.underlying22 rfl Tryz.sizeOf5 ya ya) ?_
  refine LO_l rfl trivial (ol_st0 rfl rfl rfl ⟨⟨trivial, yn⟩, (tn ya ya)⟩ rfl yf tok5 ?_)
  refine LO_nil ?_
  refine W_seq (W_regl fun w0 => ?_)
  refine zM ?_
  refine zM ?_
  refine yL (ov_add rfl rfl rfl ya) ?_
  refine zM ?_
  refine yL (ov_fieldAddr rfl rfl fa31_1 rfl) ?_
  refine yL (ov_indexAddr rfl rfl rfl Tryz.underlying22 rfl Tryz.sizeOf5 ya ya) ?_
  refine LO_l rfl trivial (ol_st0 rfl rfl rfl ⟨⟨trivial, yn⟩, (tn ya ya)⟩ rfl yf tok5 ?_)
  refine LO_nil ?_
  refine W_seq (W_regl fun w0 => ?_)
  refine yL (ov_load rfl rfl ye trivial rfl rfl tok31) ?_
  refine LO_l rfl trivial (ol_sw1 rfl rfl rfl rfl yf tok31 ?_)
  refine LO_nil ?_
  refine W_ret ?_
  refine ⟨trivial, yb, (ResV_cell rfl rfl ye rfl tok31 ?_)⟩
  exact xbvy
 ·
  refine W_seq (W_reg ?_)
  refine yR (ov_fieldAddr rfl rfl fa55_3 rfl) ?_
  refine yR (ov_load rfl rfl ye ⟨trivial, yn⟩ rfl rfl tok5) ?_
  refine yR (ov_neq rfl rfl rfl) ?_
  refine yA_ ?_
  refine RO_nil ?_
  refine W_cond rfl (fun hc2 => ?_) (fun hc2 => ?_)
  ·
   have hD := hL.d (ndec hc2)
   have hD0 := hD
   simp only [mD, pkAt, pk, tu] at hD0
   have hpr := pkAt_rng hp (tu p) (mD m)
   have hpr0 := hpr
   simp only [pkAt, pk, tu, mD] at hpr0
   have hw4 := (POK_put (POK_setPk hp (tu p) (mD m) (x := pkAt p (tu p) (mD m) - 1) yo yo) (mT m) (v := 8 * tu p + mD m) yo yo).wf
   refine W_seq ?_
   refine W_regD (fun i => !Nat.beq i 12) mixed (fun w0 => ?_)
   refine D_mem0 (i := 0) rfl yk yk rfl rfl yd (ov_fieldAddr rfl rfl fa31_4 rfl) ?_
   refine D_mem0 (i := 1) rfl yk yk rfl rfl yd (ov_load rfl rfl ye ⟨trivial, yn⟩ rfl rfl tok5) ?_
   refine D_mem0 (i := 2) rfl yk yk rfl rfl yd (ov_fieldAddr rfl rfl fa55_3 rfl) ?_
   refine D_mem0 (i := 3) rfl yk yk rfl rfl yd (ov_load rfl rfl ye ⟨trivial, yn⟩ rfl rfl tok5) ?_
   refine D_mem0 (i := 4) rfl yk yk rfl rfl yd (ov_fieldAddr rfl rfl fa31_3 rfl) ?_
   refine D_mem0 (i := 5) rfl yk yk rfl rfl yd (ov_indexAddr rfl rfl rfl Tryz.underlying25 rfl Tryz.sizeOf24 ya ya) ?_
   refine D_mem0 (i := 6) rfl yk yk rfl rfl yd (ov_indexAddr rfl rfl rfl Tryz.underlying24 rfl Tryz.sizeOf5 ya ya) ?_
   refine D_mem0 (i := 7) rfl yk yk rfl rfl yd (ov_load rfl rfl ye ⟨⟨⟨trivial, yn⟩, (tn ya ya)⟩, (tn ya ya)⟩ rfl rfl tok5) ?_
   refine D_mem0 (i := 8) rfl yk yk rfl rfl yd (ov_sub rfl rfl rfl ya) ?_
   refine D_oneV (i := 9) rfl yk rfl rfl yd xaay (OpX.v (ov_fieldAddr rfl rfl fa31_3 rfl)) ?_
   refine D_oneV (i := 10) rfl yk rfl rfl yd xaay (OpX.v (ov_indexAddr rfl rfl rfl Tryz.underlying25 rfl Tryz.sizeOf24 ya ya)) ?_
   refine D_oneV (i := 11) rfl yk rfl rfl yd xaay (OpX.v (ov_indexAddr rfl rfl rfl Tryz.underlying24 rfl Tryz.sizeOf5 ya ya)) ?_
   refine D_one (i := 12) rfl yk rfl trivial (ol_st0 rfl rfl rfl ⟨⟨⟨trivial, yn⟩, (tn ya ya)⟩, (tn ya ya)⟩ rfl yf tok5 ⟨xaay, ?_⟩)
   refine D_end yk ?_
   refine W_seq (W_regl fun w0 => ?_)
   refine yL (ov_fieldAddr rfl rfl fa55_1 rfl) ?_
   refine yL (ov_load rfl rfl ye ⟨trivial, yn⟩ rfl rfl tok26) ?_
   refine yL (ov_fieldAddr rfl rfl fa31_4 rfl) ?_
   refine yL (ov_load rfl rfl ye ⟨trivial, yn⟩ rfl rfl tok5) ?_
   refine yL (ov_mul rfl rfl rfl ya) ?_
   refine yL (ov_fieldAddr rfl rfl fa55_3 rfl) ?_
   refine yL (ov_load rfl rfl ye ⟨trivial, yn⟩ rfl rfl tok5) ?_
   refine yL (ov_add rfl rfl rfl ya) ?_
   refine yL (ov_fieldAddr rfl rfl fa31_1 rfl) ?_
   refine yL (ov_indexAddr rfl rfl rfl Tryz.underlying22 rfl Tryz.sizeOf5 ya ya) ?_
   refine LO_l rfl trivial (ol_st0 rfl rfl rfl ⟨⟨trivial, yn⟩, (tn ya ya)⟩ rfl yf tok5 ?_)
   refine LO_nil ?_
   refine W_seq (W_regl fun w0 => ?_)
   refine yL (ov_load rfl rfl ye trivial rfl rfl tok31) ?_
   refine LO_l rfl trivial (ol_sw1 rfl rfl rfl rfl yf tok31 ?_)
   refine LO_nil ?_
   refine W_ret ?_
   refine ⟨trivial, yb, (ResV_cell rfl rfl ye rfl tok31 ?_)⟩
   exact xbvy
  ·
   refine W_skip ?_
   refine W_cut [(3, ptrv b1 posT []), (4, ptrv b2 moveT []), (6, ptrv b3 posT []), (7, ptrv b4 posT []), (8, .int .u8 (pb p (mF m)))] (.box b4 31 posT (men1 p tk) :: .box b3 31 posT (zero posT) :: .box b2 55 moveT m :: .box b1 31 posT p :: M) ?_ ?_
   ·
    refine W_seq (W_reg ?_)
    refine yM ?_
    refine yR (ov_geq rfl rfl rfl) ?_
    refine RO_nil ?_
    refine W_cond rfl (fun hc3 => ?_) (fun hc3 => ?_)
    ·
     have htk0 : 0 ≤ tk := of_decide_eq_true hc3
     refine W_regl (fun w0 => ?_)
     refine zM ?_
     refine yL (ov_fieldAddr rfl rfl fa31_1 rfl) ?_
     refine yL (ov_indexAddr rfl rfl rfl Tryz.underlying22 rfl Tryz.sizeOf5 ya ya) ?_
     refine LO_l rfl trivial (ol_st0 rfl rfl rfl ⟨⟨trivial, yn⟩, (tn ya ya)⟩ rfl yf tok5 ?_)
     refine LO_nil ?_
     exact ⟨⟨rfl, rfl, rfl, rfl, rfl, trivial⟩, (by first | (rw [show men1 p tk = _ from if_pos hc3]; exact yb) | (rw [show men1 p tk = p from if_neg (Bool.eq_false_iff.1 hc3)]; exact yb))⟩
    ·
     refine W_skip ?_
     exact ⟨⟨rfl, rfl, rfl, rfl, rfl, trivial⟩, (by first | (rw [show men1 p tk = _ from if_pos hc3]; exact yb) | (rw [show men1 p tk = p from if_neg (Bool.eq_false_iff.1 hc3)]; exact yb))⟩
   ·
    refine W_seq (W_regl fun w0 => ?_)
    refine yL (ov_fieldAddr rfl rfl fa55_0 rfl) ?_
    refine yL (ov_load rfl rfl ye ⟨trivial, yn⟩ rfl rfl tok26) ?_
    refine yL (ov_fieldAddr rfl rfl fa31_1 rfl) ?_
    refine yL (ov_indexAddr rfl rfl rfl Tryz.underlying22 rfl Tryz.sizeOf5 ya ya) ?_
    refine LO_l rfl trivial (ol_st0 rfl rfl rfl ⟨⟨trivial, yn⟩, (tn ya ya)⟩ rfl yf tok5 ?_)
    refine LO_nil ?_
    refine W_seq (W_regl fun w0 => ?_)
    refine yL (ov_fieldAddr rfl rfl fa55_1 rfl) ?_
    refine yL (ov_load rfl rfl ye ⟨trivial, yn⟩ rfl rfl tok26) ?_
    refine zM ?_
    refine yL (ov_fieldAddr rfl rfl fa31_1 rfl) ?_
    refine yL (ov_indexAddr rfl rfl rfl Tryz.underlying22 rfl Tryz.sizeOf5 ya ya) ?_
    refine LO_l rfl trivial (ol_st0 rfl rfl rfl ⟨⟨trivial, yn⟩, (tn ya ya)⟩ rfl yf tok5 ?_)
    refine LO_nil ?_
    refine W_cut [(6, ptrv b3 posT []), (7, ptrv b4 posT [])] (.box b4 31 posT (men3r p (men2 (men1 p tk) p m) m) :: .box b3 31 posT (zero posT) :: .box b2 55 moveT m :: .box b1 31 posT p :: M) ?_ ?_
    ·
     refine W_seq (W_reg ?_)
     refine yR (ov_fieldAddr rfl rfl fa55_2 rfl) ?_
     refine yR (ov_load rfl rfl ye ⟨trivial, yn⟩ rfl rfl tok5) ?_
     refine yR (ov_neq rfl rfl rfl) ?_
     refine RO_nil ?_
     refine W_cond rfl (fun hc4 => ?_) (fun hc4 => ?_)
     ·
      refine W_regl (fun w0 => ?_)
      refine yL (ov_fieldAddr rfl rfl fa55_1 rfl) ?_
      refine yL (ov_load rfl rfl ye ⟨trivial, yn⟩ rfl rfl tok26) ?_
      refine yL (ov_fieldAddr rfl rfl fa31_4 rfl) ?_
      refine yL (ov_load rfl rfl ye ⟨trivial, yn⟩ rfl rfl tok5) ?_
      refine yL (ov_mul rfl rfl rfl ya) ?_
      refine yL (ov_fieldAddr rfl rfl fa55_2 rfl) ?_
      refine yL (ov_load rfl rfl ye ⟨trivial, yn⟩ rfl rfl tok5) ?_
      refine yL (ov_add rfl rfl rfl ya) ?_
      refine yL (ov_fieldAddr rfl rfl fa31_1 rfl) ?_
      refine yL (ov_indexAddr rfl rfl rfl Tryz.underlying22 rfl Tryz.sizeOf5 ya ya) ?_
      refine LO_l rfl trivial (ol_st0 rfl rfl rfl ⟨⟨trivial, yn⟩, (tn ya ya)⟩ rfl yf tok5 ?_)
      refine LO_nil ?_
      exact ⟨⟨rfl, rfl, trivial⟩, (by first | (rw [show men3r p (men2 (men1 p tk) p m) m = _ from if_pos hc4]; exact yb) | (rw [show men3r p (men2 (men1 p tk) p m) m = _ from if_neg (Bool.eq_false_iff.1 hc4)]; exact yb))⟩
     ·
      refine W_skip ?_
      exact ⟨⟨rfl, rfl, trivial⟩, (by first | (rw [show men3r p (men2 (men1 p tk) p m) m = _ from if_pos hc4]; exact yb) | (rw [show men3r p (men2 (men1 p tk) p m) m = _ from if_neg (Bool.eq_false_iff.1 hc4)]; exact yb))⟩
    ·
     have hw5 := (POK_men3r hp hm hL (POK_men2 (POK_men1 hp tk) hp m)).wf
     refine W_seq (W_regl fun w0 => ?_)
     refine yL (ov_load rfl rfl ye trivial rfl rfl tok31) ?_
     refine LO_l rfl trivial (ol_sw1 rfl rfl rfl rfl yf tok31 ?_)
     refine LO_nil ?_
     refine W_ret ?_
     refine ⟨trivial, yb, (ResV_cell rfl rfl ye rfl tok31 ?_)⟩
     exact xbvy

theorem c_ref16_pocket (p : Pos) (hp : POK p) (q : Pos) (hq : POK q) (m : Mv) (hm : MOK m) (tk : Int) (M : List Fact) (hL : LMv p m) (htk : -1 ≤ tk ∧ tk < 64) : Pure Tryz.prog 120 [enc posT p, enc posT q, enc moveT m, .int .i64 tk] M (enc posT (pocketR p q m tk)) := by
 have hb := hp.board
 have hpw := hp.wf
 have hvr := hp.vr
 have htu := hp.tu
 have hpg := hp.pg
 have hvr0 := hp.vr
 have htu0 := hp.tu
 simp only [vr] at hvr0
 simp only [tu] at htu0
 have hmF := hm.f
 have hmT := hm.t
 have hmP := hm.p
 have hmD := hm.d
 have hmF0 := hm.f
 have hmT0 := hm.t
 have hmP0 := hm.p
 have hmD0 := hm.d
 simp only [mF] at hmF0
 simp only [mT] at hmT0
 simp only [mP] at hmP0
 simp only [mD] at hmD0
 have ht := hL.t
 have ht2 := hL.t
 simp only [tu] at ht2
 have hF := hL.f
 have hF0 := hL.f
 simp only [mF] at hF0
 have hT := hL.to
 have hT0 := hL.to
 simp only [mT] at hT0
 have hmw := wf_move m
 have hqw := hq.wf
 have hgo := goR_rng (sideR p m)
 have hPm := hL.pr
 have hPm0 := hL.pr
 simp only [mP] at hPm0
 refine pure_of_W (n := 151) Tryz.func120 rfl rfl yn ?_
 refine W_seq (W_regl fun w0 => ?_)
 refine LO_l rfl (by decide : 4 < 151) (ol_box (t := posT) rfl rfl rfl yf (fun b1 => ?_))
 refine LO_l rfl (by decide : 5 < 151) (ol_box (t := posT) rfl rfl rfl yf (fun b2 => ?_))
 refine LO_l rfl (by decide : 6 < 151) (ol_box (t := moveT) rfl rfl rfl yf (fun b3 => ?_))
 refine LO_l rfl (by decide : 8 < 151) (ol_alloc (t := posT) rfl tok31 yf (fun b4 => ?_))
 refine LO_nil ?_
 refine W_seq ?_
 refine W_seq (W_reg ?_)
 refine yR (ov_fieldAddr rfl rfl fa31_0 rfl) ?_
 refine yR (ov_load rfl rfl ye ⟨trivial, yn⟩ rfl rfl tok5) ?_
 refine yR (ov_neq rfl rfl rfl) ?_
 refine yM ?_
 refine yG (fun hg => OpX.v (ov_fieldAddr rfl rfl fa55_3 rfl)) ?_
 refine yG (fun hg => OpX.v (ov_load rfl (look_gv rfl (bq hg)) ye ⟨trivial, yn⟩ rfl rfl tok5)) ?_
 refine yG (fun hg => OpX.v (ov_neq rfl (look_gv rfl (bq hg)) rfl)) ?_
 refine yR (ov_or rfl rfl rfl rfl (fun h => bq h)) ?_
 refine RO_nil ?_
 refine W_cond rfl (fun hc1 => ?_) (fun hc1 => ?_)
 ·
  refine W_seq (W_regl fun w0 => ?_)
  refine yL (ov_load rfl rfl ye trivial rfl rfl tok31) ?_
  refine LO_l rfl trivial (ol_sw0 rfl rfl rfl rfl yf tok31 ?_)
  refine LO_nil ?_
  refine W_ret ?_
  refine ⟨trivial, yb, (ResV_cell rfl rfl ye rfl tok31 ?_)⟩
  exact xbwy
 ·
  refine W_skip ?_
  refine W_seq ?_
  refine W_seq (W_reg ?_)
  refine yR (ov_fieldAddr rfl rfl fa55_4 rfl) ?_
  refine yR (ov_load rfl rfl ye ⟨trivial, yn⟩ rfl rfl tok4) ?_
  refine RO_nil ?_
  refine W_cond rfl (fun hc2 => ?_) (fun hc2 => ?_)
  ·
   refine W_seq (W_reg ?_)
   refine yR (ov_load rfl rfl ye trivial rfl rfl tok31) ?_
   refine yR (ov_load rfl rfl ye trivial rfl rfl tok55) ?_
   refine yP (yV rfl rfl rfl Tryz.call173 (c_ref14_Side p hp m hm _)) ?_
   refine yA_ ?_
   refine RO_nil ?_
   refine W_seq (W_reg ?_)
   refine yM ?_
   refine yP (yV rfl rfl rfl Tryz.call174 (by apply c_ref14_Goals <;> exact yz)) ?_
   refine yM ?_
   refine yR (ov_extract rfl rfl rfl) ?_
   refine yR (ov_extract rfl rfl rfl) ?_
   refine yA_ ?_
   refine yA_ ?_
   refine RO_nil ?_
   refine W_seq ?_
   refine W_seq (W_reg ?_)
   refine yR (ov_fieldAddr rfl rfl fa31_2 rfl) ?_
   refine yR (ov_load rfl rfl ye ⟨trivial, yn⟩ rfl rfl tok23) ?_
   refine yR (ov_fieldAddr rfl rfl fa55_1 rfl) ?_
   refine yR (ov_load rfl rfl ye ⟨trivial, yn⟩ rfl rfl tok26) ?_
   refine yR (ov_convn rfl rfl Tryz.underlying26 Tryz.underlying3 ya) ?_
   refine yP (yV rfl rfl rfl Tryz.call122 (by apply c_ref16_Has <;> exact yz)) ?_
   refine RO_nil ?_
   refine W_cond rfl (fun hc3 => ?_) (fun hc3 => ?_)
   ·
    have hw4 : wf posT (setPm (setPm q (pm p &&& ~~~shlB (mT m))) ((pm p &&& ~~~shlB (mT m)) ||| shlB (56 * tu p + (goR (sideR p m)).2))) := (POK_setPm (POK_setPm hq _) _).wf
    refine W_seq (W_regl fun w0 => ?_)
    refine yL (ov_fieldAddr rfl rfl fa31_2 rfl) ?_
    refine yL (ov_load rfl rfl ye ⟨trivial, yn⟩ rfl rfl tok23) ?_
    refine yL (ov_fieldAddr rfl rfl fa55_1 rfl) ?_
    refine yL (ov_load rfl rfl ye ⟨trivial, yn⟩ rfl rfl tok26) ?_
    refine yL (ov_conv64 rfl rfl Tryz.underlying26 Tryz.underlying111) ?_
    refine yL (ov_shl64 (a := 1#64) rfl rfl rfl ya) ?_
    refine yL (ov_bits rfl rfl rfl (.inr (.inr (.inr ⟨rfl, rfl⟩)))) ?_
    refine yL (ov_fieldAddr rfl rfl fa31_2 rfl) ?_
    refine LO_l rfl trivial (ol_st2 rfl rfl rfl ⟨trivial, yn⟩ rfl yf tok23 ?_)
    refine LO_nil ?_
    refine W_regl (fun w0 => ?_)
    refine yL (ov_fieldAddr rfl rfl fa31_2 rfl) ?_
    refine yL (ov_load rfl rfl ye ⟨trivial, yn⟩ rfl rfl tok23) ?_
    refine yL (ov_fieldAddr rfl rfl fa31_4 rfl) ?_
    refine yL (ov_load rfl rfl ye ⟨trivial, yn⟩ rfl rfl tok5) ?_
    refine yL (ov_convn rfl rfl Tryz.underlying5 Tryz.underlying3 ya) ?_
    refine yL (ov_mul rfl rfl rfl ya) ?_
    refine zM ?_
    refine yL (ov_add rfl rfl rfl ya) ?_
    refine yL (ov_conv64 rfl rfl Tryz.underlying3 Tryz.underlying111) ?_
    refine yL (ov_shl64 (a := 1#64) rfl rfl rfl ya) ?_
    refine yL (ov_bits rfl rfl rfl (.inr (.inl ⟨rfl, rfl⟩))) ?_
    refine yL (ov_fieldAddr rfl rfl fa31_2 rfl) ?_
    refine LO_l rfl trivial (ol_st2 rfl rfl rfl ⟨trivial, yn⟩ rfl yf tok23 ?_)
    refine LO_nil ?_
    refine W_seq (W_regl fun w0 => ?_)
    refine yL (ov_load rfl rfl ye trivial rfl rfl tok31) ?_
    refine LO_l rfl trivial (ol_sw0 rfl rfl rfl rfl yf tok31 ?_)
    refine LO_nil ?_
    refine W_ret ?_
    refine ⟨trivial, yb, (ResV_cell rfl rfl ye rfl tok31 ?_)⟩
    exact xbwy
   ·
    refine W_skip ?_
    refine W_seq (W_regl fun w0 => ?_)
    refine yL (ov_load rfl rfl ye trivial rfl rfl tok31) ?_
    refine LO_l rfl trivial (ol_sw0 rfl rfl rfl rfl yf tok31 ?_)
    refine LO_nil ?_
    refine W_ret ?_
    refine ⟨trivial, yb, (ResV_cell rfl rfl ye rfl tok31 ?_)⟩
    exact xbwy
  ·
   refine W_skip ?_
   refine W_cut [(3, .int .i64 tk), (4, ptrv b1 posT []), (5, ptrv b2 posT []), (6, ptrv b3 moveT []), (8, ptrv b4 posT [])] (.box b4 31 posT (zero posT) :: .box b3 55 moveT m :: .box b2 31 posT (pk2 p q tk) :: .box b1 31 posT p :: M) ?_ ?_
   ·
    refine W_seq (W_reg ?_)
    refine yM ?_
    refine yR (ov_geq rfl rfl rfl) ?_
    refine RO_nil ?_
    refine W_cond rfl (fun hc4 => ?_) (fun hc4 => ?_)
    ·
     have htk0 : 0 ≤ tk := of_decide_eq_true hc4
     have hkk := kind_rng (pb p tk)
     have hpk := pkt1_rng p tk
     have hpr := pkAt_rng hq (tu p) (pkt1 p tk)
     have hpr0 := hpr
     simp only [pkAt, pk, tu] at hpr0
     refine W_seq (W_reg ?_)
     refine yM ?_
     refine yR (ov_fieldAddr rfl rfl fa31_1 rfl) ?_
     refine yR (ov_indexAddr rfl rfl rfl Tryz.underlying22 rfl Tryz.sizeOf5 ya ya) ?_
     refine yR (ov_load rfl rfl ye ⟨⟨trivial, yn⟩, (tn ya ya)⟩ rfl rfl tok5) ?_
     refine yP (yV rfl rfl rfl Tryz.call84 xaqy) ?_
     refine yA_ ?_
     refine RO_nil ?_
     refine W_cut [(3, .int .i64 tk), (4, ptrv b1 posT []), (5, ptrv b2 posT []), (6, ptrv b3 moveT []), (8, ptrv b4 posT []), (12, .int .u8 (pkt1 p tk))] (.box b4 31 posT (zero posT) :: .box b3 55 moveT m :: .box b2 31 posT q :: .box b1 31 posT p :: M) ?_ ?_
     ·
      refine W_seq (W_reg ?_)
      refine yR (ov_fieldAddr rfl rfl fa31_2 rfl) ?_
      refine yR (ov_load rfl rfl ye ⟨trivial, yn⟩ rfl rfl tok23) ?_
      refine yM ?_
      refine yP (yV rfl rfl rfl Tryz.call122 (by apply c_ref16_Has <;> exact yz)) ?_
      refine yM ?_
      refine yG (fun hg => OpX.v (ov_move rfl rfl)) ?_
      refine yG (fun hg => OpX.v (ov_fieldAddr rfl rfl fa31_1 rfl)) ?_
      refine yG (fun hg => OpX.v (ov_indexAddr rfl (look_gv rfl (bq hg)) (look_gv rfl (bq hg)) Tryz.underlying22 rfl Tryz.sizeOf5 ya ya)) ?_
      refine yG (fun hg => OpX.v (ov_load rfl (look_gv rfl (bq hg)) ye ⟨⟨trivial, yn⟩, (tn ya ya)⟩ rfl rfl tok5)) ?_
      refine yG (fun hg => OpX.v (ov_neq rfl (look_gv rfl (bq hg)) rfl)) ?_
      refine yR (ov_and rfl rfl rfl rfl (fun h => bq h)) ?_
      refine RO_nil ?_
      refine W_cond rfl (fun hc5 => ?_) (fun hc5 => ?_)
      ·
       refine W_reg ?_
       refine yA_ ?_
       refine RO_nil ?_
       exact ⟨⟨rfl, rfl, rfl, rfl, rfl, (by first | exact congrArg some (val_u8 (show (pkt1 p tk) = _ from if_pos hc5).symm) | exact congrArg some (val_u8 (show (pkt1 p tk) = _ from if_neg (Bool.eq_false_iff.1 hc5)).symm)), trivial⟩, yb⟩
      ·
       refine W_skip ?_
       exact ⟨⟨rfl, rfl, rfl, rfl, rfl, (by first | exact congrArg some (val_u8 (show (pkt1 p tk) = _ from if_pos hc5).symm) | exact congrArg some (val_u8 (show (pkt1 p tk) = _ from if_neg (Bool.eq_false_iff.1 hc5)).symm)), trivial⟩, yb⟩
     ·
      refine W_seq (W_reg ?_)
      refine yM ?_
      refine yR (ov_geq rfl rfl rfl) ?_
      refine yM ?_
      refine yG (fun hg => OpX.v (ov_move rfl rfl)) ?_
      refine yG (fun hg => OpX.v (ov_leq rfl (look_gv rfl (bq hg)) rfl)) ?_
      refine yR (ov_and rfl rfl rfl rfl (fun h => bq h)) ?_
      refine yM ?_
      refine yG (fun hg => OpX.v (ov_fieldAddr rfl rfl fa31_4 rfl)) ?_
      refine yG (fun hg => OpX.v (ov_load rfl (look_gv rfl (bq hg)) ye ⟨trivial, yn⟩ rfl rfl tok5)) ?_
      refine yG (fun hg => OpX.v (ov_move rfl rfl)) ?_
      refine yG (fun hg => OpX.v (ov_fieldAddr rfl rfl fa31_3 rfl)) ?_
      refine RO_g1 rfl rfl rfl rfl rfl yd (fun hg => by have hgx := hg; (try simp only [yS] at hgx); exact OpX.v (ov_indexAddr rfl (look_gv rfl (bq hg)) (look_gv rfl (bq hg)) Tryz.underlying25 rfl Tryz.sizeOf24 ya ya)) ?_
      refine RO_g1 rfl rfl rfl rfl rfl yd (fun hg => by have hgx := hg; (try simp only [yS] at hgx); exact OpX.v (ov_indexAddr rfl (look_gv rfl (bq hg)) (look_gv rfl (bq hg)) Tryz.underlying24 rfl Tryz.sizeOf5 ya ya)) ?_
      refine RO_g1 rfl rfl rfl rfl rfl yd (fun hg => by have hgx := hg; (try simp only [yS] at hgx); exact OpX.v (ov_load rfl (look_gv rfl (bq hg)) ye ⟨⟨⟨trivial, yn⟩, (tn ya ya)⟩, (tn ya ya)⟩ rfl rfl tok5)) ?_
      refine yG (fun hg => OpX.v (ov_lss rfl (look_gv rfl (bq hg)) rfl)) ?_
      refine yR (ov_and rfl rfl rfl rfl (fun h => bq h)) ?_
      refine RO_nil ?_
      refine W_cond rfl (fun hc6 => ?_) (fun hc6 => ?_)
      ·
       have hk6 := hc6
       simp only [yS] at hk6
       refine W_regD (fun i => !Nat.beq i 11) mixed (fun w0 => ?_)
       refine D_mem0 (i := 0) rfl yk yk rfl rfl yd (ov_fieldAddr rfl rfl fa31_4 rfl) ?_
       refine D_mem0 (i := 1) rfl yk yk rfl rfl yd (ov_load rfl rfl ye ⟨trivial, yn⟩ rfl rfl tok5) ?_
       refine D_mem0 (i := 2) rfl yk yk rfl rfl yd (ov_move rfl rfl) ?_
       refine D_mem0 (i := 3) rfl yk yk rfl rfl yd (ov_fieldAddr rfl rfl fa31_3 rfl) ?_
       refine D_mem0 (i := 4) rfl yk yk rfl rfl yd (ov_indexAddr rfl rfl rfl Tryz.underlying25 rfl Tryz.sizeOf24 ya ya) ?_
       refine D_mem0 (i := 5) rfl yk yk rfl rfl yd (ov_indexAddr rfl rfl rfl Tryz.underlying24 rfl Tryz.sizeOf5 ya ya) ?_
       refine D_mem0 (i := 6) rfl yk yk rfl rfl yd (ov_load rfl rfl ye ⟨⟨⟨trivial, yn⟩, (tn ya ya)⟩, (tn ya ya)⟩ rfl rfl tok5) ?_
       refine D_mem0 (i := 7) rfl yk yk rfl rfl yd (ov_add rfl rfl rfl ya) ?_
       refine D_oneV (i := 8) rfl yk rfl rfl yd xaay (OpX.v (ov_fieldAddr rfl rfl fa31_3 rfl)) ?_
       refine D_oneV (i := 9) rfl yk rfl rfl yd xaay (OpX.v (ov_indexAddr rfl rfl rfl Tryz.underlying25 rfl Tryz.sizeOf24 ya ya)) ?_
       refine D_oneV (i := 10) rfl yk rfl rfl yd xaay (OpX.v (ov_indexAddr rfl rfl rfl Tryz.underlying24 rfl Tryz.sizeOf5 ya ya)) ?_
       refine D_one (i := 11) rfl yk rfl trivial (ol_st2 rfl rfl rfl ⟨⟨⟨trivial, yn⟩, (tn ya ya)⟩, (tn ya ya)⟩ rfl yf tok5 ⟨xaay, ?_⟩)
       refine D_end yk ?_
       exact ⟨⟨rfl, rfl, rfl, rfl, rfl, trivial⟩, xany⟩
      ·
       refine W_skip ?_
       exact ⟨⟨rfl, rfl, rfl, rfl, rfl, trivial⟩, xany⟩
    ·
     refine W_skip ?_
     exact ⟨⟨rfl, rfl, rfl, rfl, rfl, trivial⟩, xany⟩
   ·
    refine W_seq (W_reg ?_)
    refine yR (ov_assign (v := u64v 0#64) rfl rfl) ?_
    refine RO_nil ?_
    refine W_seq ?_
    refine W_seq (W_reg ?_)
    refine yA_ ?_
    refine RO_nil ?_
    refine W_block ?_
    refine W_loop (σ := Nat) (fun i => i ≤ 64) (fun i => [(3, .int .i64 tk), (4, ptrv b1 posT []), (5, ptrv b2 posT []), (6, ptrv b3 moveT []), (8, ptrv b4 posT []), (13, u64v (setOf (markF p m tk) i)), (14, .int .i64 (i : Int))]) (fun i => .box b4 31 posT (zero posT) :: .box b3 55 moveT _ :: .box b2 31 posT _ :: .box b1 31 posT _ :: M) (fun i => 64 - i) (0) yo ⟨rfl, rfl, rfl, rfl, rfl, rfl, rfl, trivial⟩ yb ?_
    rintro i hI
    refine W_seq ?_
    refine W_seq (W_reg ?_)
    refine yM ?_
    refine yR (ov_lss rfl rfl rfl) ?_
    refine RO_nil ?_
    refine W_cond rfl (fun hc7 => ?_) (fun hc7 => ?_)
    ·
     try simp only [yS] at hc7
     refine W_skip ?_
     refine W_seq ?_
     refine W_block ?_
     refine W_seq (W_reg ?_)
     refine yR (ov_fieldAddr rfl rfl fa31_2 rfl) ?_
     refine yR (ov_load rfl rfl ye ⟨trivial, yn⟩ rfl rfl tok23) ?_
     refine yM ?_
     refine yP (yV rfl rfl rfl Tryz.call122 (by apply c_ref16_Has <;> exact yz)) ?_
     refine yM ?_
     refine yG (fun hg => OpX.v (ov_move rfl rfl)) ?_
     refine yG (fun hg => OpX.v (ov_move rfl rfl)) ?_
     refine yG (fun hg => OpX.v (ov_neq rfl (look_gv rfl (bq hg)) (look_gv rfl (bq hg)))) ?_
     refine yR (ov_and rfl rfl rfl rfl (fun h => bq h)) ?_
     refine yM ?_
     refine yG (fun hg => OpX.v (ov_move rfl rfl)) ?_
     refine yG (fun hg => OpX.v (ov_fieldAddr rfl rfl fa55_0 rfl)) ?_
     refine yG (fun hg => OpX.v (ov_load rfl (look_gv rfl (bq hg)) ye ⟨trivial, yn⟩ rfl rfl tok26)) ?_
     refine yG (fun hg => OpX.v (ov_convn rfl (look_gv rfl (bq hg)) Tryz.underlying26 Tryz.underlying3 ya)) ?_
     refine yG (fun hg => OpX.v (ov_neq rfl (look_gv rfl (bq hg)) (look_gv rfl (bq hg)))) ?_
     refine yR (ov_and rfl rfl rfl rfl (fun h => bq h)) ?_
     refine RO_nil ?_
     refine W_cond rfl (fun hc8 => ?_) (fun hc8 => ?_)
     ·
      refine W_reg ?_
      refine yM ?_
      refine yM ?_
      refine yR (ov_conv64 rfl rfl Tryz.underlying3 Tryz.underlying111) ?_
      refine yR (ov_shl64 (a := 1#64) rfl rfl rfl ya) ?_
      refine yR (ov_bits rfl rfl rfl (.inr (.inl ⟨rfl, rfl⟩))) ?_
      refine yA_ ?_
      refine RO_nil ?_
      refine W_reg ?_
      refine yM ?_
      refine yR (ov_add rfl rfl rfl ya) ?_
      refine yA_ ?_
      refine RO_nil ?_
      exact ⟨i + 1, yo, yo, ⟨rfl, rfl, rfl, rfl, rfl, congrArg some (val_u64 (by first | rw [setOf_t (show markF p m tk i = true from hc8), bit_nat i yo] | rw [setOf_f (show markF p m tk i = false from hc8)])), rfl, trivial⟩, yb⟩
     ·
      refine W_skip ?_
      refine W_reg ?_
      refine yM ?_
      refine yR (ov_add rfl rfl rfl ya) ?_
      refine yA_ ?_
      refine RO_nil ?_
      exact ⟨i + 1, yo, yo, ⟨rfl, rfl, rfl, rfl, rfl, congrArg some (val_u64 (by first | rw [setOf_t (show markF p m tk i = true from hc8), bit_nat i yo] | rw [setOf_f (show markF p m tk i = false from hc8)])), rfl, trivial⟩, yb⟩
    ·
     try simp only [yS] at hc7
     refine W_exit ?_
     refine W_cut [(5, ptrv b2 posT []), (8, ptrv b4 posT []), (13, u64v (mk2 p m tk))] (.box b4 31 posT (zero posT) :: .box b3 55 moveT m :: .box b2 31 posT (pk2 p q tk) :: .box b1 31 posT p :: M) ?_ ?_
     ·
      refine W_seq (W_reg ?_)
      refine yR (ov_fieldAddr rfl rfl fa55_2 rfl) ?_
      refine yR (ov_load rfl rfl ye ⟨trivial, yn⟩ rfl rfl tok5) ?_
      refine yR (ov_neq rfl rfl rfl) ?_
      refine yM ?_
      refine yG (fun hg => OpX.v (ov_fieldAddr rfl rfl fa31_2 rfl)) ?_
      refine yG (fun hg => OpX.v (ov_load rfl (look_gv rfl (bq hg)) ye ⟨trivial, yn⟩ rfl rfl tok23)) ?_
      refine yG (fun hg => OpX.v (ov_fieldAddr rfl rfl fa55_0 rfl)) ?_
      refine yG (fun hg => OpX.v (ov_load rfl (look_gv rfl (bq hg)) ye ⟨trivial, yn⟩ rfl rfl tok26)) ?_
      refine yG (fun hg => OpX.v (ov_convn rfl (look_gv rfl (bq hg)) Tryz.underlying26 Tryz.underlying3 ya)) ?_
      refine yG (fun hg => yV rfl rfl (looks_cons (look_gv rfl (bq hg)) (looks_cons (look_gv rfl (bq hg)) looks_nil)) Tryz.call122 (by apply c_ref16_Has <;> exact yz)) ?_
      refine yR (ov_or rfl rfl rfl rfl (fun h => bq h)) ?_
      refine RO_nil ?_
      refine W_cond rfl (fun hc9 => ?_) (fun hc9 => ?_)
      ·
       refine W_reg ?_
       refine yM ?_
       refine yR (ov_fieldAddr rfl rfl fa55_1 rfl) ?_
       refine yR (ov_load rfl rfl ye ⟨trivial, yn⟩ rfl rfl tok26) ?_
       refine yR (ov_conv64 rfl rfl Tryz.underlying26 Tryz.underlying111) ?_
       refine yR (ov_shl64 (a := 1#64) rfl rfl rfl ya) ?_
       refine yR (ov_bits rfl rfl rfl (.inr (.inl ⟨rfl, rfl⟩))) ?_
       refine yA_ ?_
       refine RO_nil ?_
       exact ⟨⟨rfl, rfl, (by rw [show i = 64 by omega]; first | exact congrArg some (val_u64 (show mk2 p m tk = _ from if_pos hc9).symm) | exact congrArg some (val_u64 (show mk2 p m tk = _ from if_neg (Bool.eq_false_iff.1 hc9)).symm)), trivial⟩, yb⟩
      ·
       refine W_skip ?_
       exact ⟨⟨rfl, rfl, (by rw [show i = 64 by omega]; first | exact congrArg some (val_u64 (show mk2 p m tk = _ from if_pos hc9).symm) | exact congrArg some (val_u64 (show mk2 p m tk = _ from if_neg (Bool.eq_false_iff.1 hc9)).symm)), trivial⟩, yb⟩
     ·
      have hw5 : wf posT (setPm (pk2 p q tk) (mk2 p m tk)) := (POK_setPm (POK_pk2 hq tk) _).wf
      refine W_seq (W_regl fun w0 => ?_)
      refine zM ?_
      refine yL (ov_fieldAddr rfl rfl fa31_2 rfl) ?_
      refine LO_l rfl trivial (ol_st2 rfl rfl rfl ⟨trivial, yn⟩ rfl yf tok23 ?_)
      refine LO_nil ?_
      refine W_seq (W_regl fun w0 => ?_)
      refine yL (ov_load rfl rfl ye trivial rfl rfl tok31) ?_
      refine LO_l rfl trivial (ol_sw0 rfl rfl rfl rfl yf tok31 ?_)
      refine LO_nil ?_
      refine W_ret ?_
      refine ⟨trivial, yb, (ResV_cell rfl rfl ye rfl tok31 ?_)⟩
      exact xbwy

theorem c_ref16_Blown (p : Pos) (hp : POK p) (s : Int) (M : List Fact) (h0 : 0 ≤ s) (h1 : s < 64) : Pure Tryz.prog 121 [enc posT p, .int .i64 s] M (u64v (blownR p s)) := by
 have hb := hp.board
 have hpw := hp.wf
 have hvr := hp.vr
 have htu := hp.tu
 have hpg := hp.pg
 have hvr0 := hp.vr
 have htu0 := hp.tu
 simp only [vr] at hvr0
 simp only [tu] at htu0
 refine pure_of_W (n := 47) Tryz.func121 rfl rfl yn ?_
 refine W_seq (W_regl fun w0 => ?_)
 refine LO_l rfl (by decide : 2 < 47) (ol_box (t := posT) rfl rfl rfl yf (fun b1 => ?_))
 refine yL (ov_assign (v := u64v 0#64) rfl rfl) ?_
 refine LO_nil ?_
 refine W_seq (W_reg ?_)
 refine yR (ov_assign (v := u64v 0#64) rfl rfl) ?_
 refine RO_nil ?_
 refine W_seq ?_
 refine W_seq (W_reg ?_)
 refine yA_ ?_
 refine RO_nil ?_
 refine W_block ?_
 refine W_loop (σ := Nat) (fun i => i ≤ 64) (fun i => [(1, .int .i64 s), (2, ptrv b1 posT []), (5, u64v (setOf (blF p s) i)), (6, .int .i64 (i : Int))]) (fun i => .box b1 31 posT _ :: M) (fun i => 64 - i) (0) yo ⟨rfl, rfl, rfl, rfl, trivial⟩ yb ?_
 rintro i hI
 refine W_seq ?_
 refine W_seq (W_reg ?_)
 refine yM ?_
 refine yR (ov_lss rfl rfl rfl) ?_
 refine yM ?_
 refine yG (fun hg => OpX.v (ov_move rfl rfl)) ?_
 refine yG (fun hg => OpX.v (ov_geq rfl (look_gv rfl (bq hg)) rfl)) ?_
 refine yR (ov_and rfl rfl rfl rfl (fun h => bq h)) ?_
 refine yM ?_
 refine yG (fun hg => OpX.v (ov_move rfl rfl)) ?_
 refine yG (fun hg => OpX.v (ov_lss rfl (look_gv rfl (bq hg)) rfl)) ?_
 refine yR (ov_and rfl rfl rfl rfl (fun h => bq h)) ?_
 refine RO_nil ?_
 refine W_cond rfl (fun hc1 => ?_) (fun hc1 => ?_)
 ·
  have hi64 : i < 64 := by have := of_decide_eq_true (Bool.and_eq_true_iff.1 (Bool.and_eq_true_iff.1 hc1).1).1; omega
  refine W_skip ?_
  refine W_seq ?_
  refine W_block ?_
  refine W_seq (W_reg ?_)
  refine yM ?_
  refine yR (ov_fieldAddr rfl rfl fa31_1 rfl) ?_
  refine yR (ov_indexAddr rfl rfl rfl Tryz.underlying22 rfl Tryz.sizeOf5 ya ya) ?_
  refine yR (ov_load rfl rfl ye ⟨⟨trivial, yn⟩, (tn ya ya)⟩ rfl rfl tok5) ?_
  refine yP (yV rfl rfl rfl Tryz.call84 xaqy) ?_
  refine yA_ ?_
  refine RO_nil ?_
  refine W_seq (W_reg ?_)
  refine yM ?_
  refine yM ?_
  refine yR (ov_eql rfl rfl rfl) ?_
  refine yM ?_
  refine yG (fun hg => OpX.v (ov_move rfl rfl)) ?_
  refine yG (fun hg => OpX.v (ov_move rfl rfl)) ?_
  refine yG (fun hg => yV rfl rfl (looks_cons (look_gv rfl (bq hg)) (looks_cons (look_gv rfl (bq hg)) looks_nil)) Tryz.call151 (by apply c_ref08_Beside <;> exact yz)) ?_
  refine yG (fun hg => OpX.v (ov_move rfl (look_gv rfl (bq hg)))) ?_
  refine RO_g rfl rfl rfl rfl rfl yd (fun hg1 hg2 => OpX.v (ov_move rfl rfl)) ?_
  refine RO_g rfl rfl rfl rfl rfl yd (fun hg1 hg2 => OpX.v (ov_neq rfl (look_gv rfl (bq2 hg1 hg2)) rfl)) ?_
  refine yG (fun hg => OpX.v (ov_and rfl (look_gv rfl (bq hg)) rfl rfl (fun h => bq2 (bq hg) h))) ?_
  refine yG (fun hg => OpX.v (ov_move rfl (look_gv rfl (bq hg)))) ?_
  refine RO_g rfl rfl rfl rfl rfl yd (fun hg1 hg2 => OpX.v (ov_move rfl rfl)) ?_
  refine RO_g rfl rfl rfl rfl rfl yd (fun hg1 hg2 => OpX.v (ov_neq rfl (look_gv rfl (bq2 hg1 hg2)) rfl)) ?_
  refine yG (fun hg => OpX.v (ov_and rfl (look_gv rfl (bq hg)) rfl rfl (fun h => bq2 (bq hg) h))) ?_
  refine yR (ov_or rfl rfl rfl rfl (fun h => bq h)) ?_
  refine RO_nil ?_
  refine W_cond rfl (fun hc2 => ?_) (fun hc2 => ?_)
  ·
   refine W_reg ?_
   refine yM ?_
   refine yM ?_
   refine yR (ov_conv64 rfl rfl Tryz.underlying3 Tryz.underlying111) ?_
   refine yR (ov_shl64 (a := 1#64) rfl rfl rfl ya) ?_
   refine yR (ov_bits rfl rfl rfl (.inr (.inl ⟨rfl, rfl⟩))) ?_
   refine yA_ ?_
   refine RO_nil ?_
   refine W_reg ?_
   refine yM ?_
   refine yR (ov_add rfl rfl rfl ya) ?_
   refine yA_ ?_
   refine RO_nil ?_
   exact ⟨i + 1, yo, yo, ⟨rfl, rfl, congrArg some (val_u64 (by first | rw [setOf_t (show blF p s i = true from hc2), bit_nat i hi64] | rw [setOf_f (show blF p s i = false from hc2)])), rfl, trivial⟩, yb⟩
  ·
   refine W_skip ?_
   refine W_reg ?_
   refine yM ?_
   refine yR (ov_add rfl rfl rfl ya) ?_
   refine yA_ ?_
   refine RO_nil ?_
   exact ⟨i + 1, yo, yo, ⟨rfl, rfl, congrArg some (val_u64 (by first | rw [setOf_t (show blF p s i = true from hc2), bit_nat i hi64] | rw [setOf_f (show blF p s i = false from hc2)])), rfl, trivial⟩, yb⟩
 ·
  have hi64 : i = 64 := by (have hx := hc1; simp only [Bool.and_eq_false_iff, decide_eq_false_iff_not] at hx; omega)
  refine W_exit ?_
  refine W_seq (W_reg ?_)
  refine yM ?_
  refine yA_ ?_
  refine RO_nil ?_
  refine W_ret ?_
  refine ⟨trivial, yb, (ResV_tmp1 rfl rfl ?_)⟩
  exact val_u64 (by rw [hi64]; rfl)
end Go.Kw
set_option linter.unusedVariables false
set_option linter.unusedSimpArgs false
namespace Go.Kw
open Go.Proofs


theorem val_i8 {a b : Int} (h : a = b) : Value.int .i8 a = .int .i8 b := by rw [h]
def rr1 (p q : Pos) (m : Mv) : Pos := if (decide (mD m = 0) && decide (kind (pb p (mF m)) = 6)) = true then setRkR q (tu p) ([-1, -1] : List Int) else q
theorem POK_rr1 {p q : Pos} (hq : POK q) (m : Mv) : POK (rr1 p q m) := by
  unfold rr1; split
  · refine POK_setRkR hq _ rfl fun k => ?_
    match k with
    | 0 => exact ⟨by decide, by decide⟩
    | 1 => exact ⟨by decide, by decide⟩
    | k + 2 => exact ⟨by show (-128 : Int) ≤ 0; decide, by show (0 : Int) ≤ 127; decide⟩
  · exact hq
def goneR (m : Mv) (tk : Int) (q : Pos) (c king f : Int) : Bool := ((((decide (king < 56 * c) || decide (56 * c + 7 < king)) || !isAt q (56 * c + f) c 4) || decide (tk = 56 * c + f)) || (decide (mD m = 0) && decide (mF m = 56 * c + f)))
def rrSide (m : Mv) (tk : Int) (c king : Int) (q : Pos) (j : Nat) : Pos :=
  if (decide (rkAt q c (j : Int) < 0) || decide (7 < rkAt q c (j : Int))) = true then q
  else if goneR m tk q c king (rkAt q c (j : Int)) = true then setRk q c (j : Int) (-1) else q
def rrJ (m : Mv) (tk : Int) (q : Pos) (c : Int) : Nat → Pos
  | 0 => q
  | j + 1 => rrSide m tk c (find q c 6) (rrJ m tk q c j) j
def rrC (m : Mv) (tk : Int) (q : Pos) : Nat → Pos
  | 0 => q
  | n + 1 => rrJ m tk (rrC m tk q n) (n : Int) 2
def rightsR (p q : Pos) (m : Mv) (tk : Int) : Pos := rrC m tk (rr1 p q m) 2
theorem rrC_next (m : Mv) (tk : Int) (q : Pos) {i j : Nat} (h : j = 2) : rrC m tk q (i + 1) = rrJ m tk (rrC m tk q i) (i : Int) j := by subst h; rfl
theorem rrJ_a (m : Mv) (tk : Int) (q : Pos) (c : Int) {j : Nat} (h : (decide (rkAt (rrJ m tk q c j) c (j : Int) < 0) || decide (7 < rkAt (rrJ m tk q c j) c (j : Int))) = true) : rrJ m tk q c (j + 1) = rrJ m tk q c j := by
  rw [rrJ, rrSide, if_pos h]
theorem rrJ_b (m : Mv) (tk : Int) (q : Pos) (c : Int) {j : Nat} (h : (decide (rkAt (rrJ m tk q c j) c (j : Int) < 0) || decide (7 < rkAt (rrJ m tk q c j) c (j : Int))) = false)
    (h2 : goneR m tk (rrJ m tk q c j) c (find q c 6) (rkAt (rrJ m tk q c j) c (j : Int)) = true) : rrJ m tk q c (j + 1) = setRk (rrJ m tk q c j) c (j : Int) (-1) := by
  rw [rrJ, rrSide, if_neg xawy, if_pos h2]
theorem rrJ_c (m : Mv) (tk : Int) (q : Pos) (c : Int) {j : Nat} (h : (decide (rkAt (rrJ m tk q c j) c (j : Int) < 0) || decide (7 < rkAt (rrJ m tk q c j) c (j : Int))) = false)
    (h2 : goneR m tk (rrJ m tk q c j) c (find q c 6) (rkAt (rrJ m tk q c j) c (j : Int)) = false) : rrJ m tk q c (j + 1) = rrJ m tk q c j := by
  rw [rrJ, rrSide, if_neg xawy, if_neg (by rw [h2]; simp)]
theorem POK_rrJ {q : Pos} (hq : POK q) (m : Mv) (tk : Int) (c : Int) : ∀ j, POK (rrJ m tk q c j)
  | 0 => hq
  | j + 1 => by
    have ih := POK_rrJ hq m tk c j
    rw [rrJ, rrSide]
    split
    · exact ih
    · split
      · exact POK_setRk ih c j yd yd
      · exact ih
theorem POK_rrC {q : Pos} (hq : POK q) (m : Mv) (tk : Int) : ∀ n, n ≤ 2 → POK (rrC m tk q n)
  | 0, _ => hq
  | n + 1, h => POK_rrJ (POK_rrC hq m tk n yo) m tk n 2
theorem POK_rightsR {p q : Pos} (hq : POK q) (m : Mv) (tk : Int) : POK (rightsR p q m tk) := POK_rrC (POK_rr1 hq m) m tk 2 (Nat.le_refl _)
def passF (p q : Pos) (m : Mv) (i : Nat) : Bool := isAt q (i : Int) (1 - tu p) 1 && hits q (i : Int) (mF m + upR (tu p))
def passR (p q : Pos) (m : Mv) : Int :=
  if ((!decide (mD m = 0) || mC m) || !decide (kind (pb p (mF m)) = 1)) = true then -1
  else if (!decide (mT m = mF m + 2 * upR (tu p)) || !decide (rankR (tu p) (mF m) = 1)) = true then -1
  else if okTo (passF p q m) 64 = true then -1 else mF m + upR (tu p)
theorem pass_to {p : Pos} {m : Mv} (h : (!decide (mT m = mF m + 2 * upR (tu p)) || !decide (rankR (tu p) (mF m) = 1)) = false) : mT m = mF m + 2 * upR (tu p) := by
  have := (Bool.or_eq_false_iff.1 h).1
  simpa using this
theorem passR_rng (p q : Pos) (m : Mv) (hL : LMv p m) : -128 ≤ passR p q m ∧ passR p q m ≤ 127 := by
  have h1 := hL.f
  have h2 := upR_val (tu p)
  unfold passR; (repeat split) <;> omega
theorem isR_may {p : Pos} {m : Mv} (h : isR p m = true) : mayR p (mF m) (mT m) = true := by
  unfold isR at h
  cases e : chR p m with
  | true => rw [if_pos e] at h; cases h
  | false =>
    have := (Bool.or_eq_false_iff.1 e).2
    simpa using this
theorem own_tu {p : Pos} {a c : Int} (h : ownR p a c = true) : pb p a / 8 = c := of_decide_eq_true (Bool.and_eq_true_iff.1 h).2
theorem may_own {p : Pos} {a b : Int} (h : mayR p a b = true) : ownR p a (tu p) = true ∧ ownR p b (tu p) = false ∧ ¬ a = b := by
  unfold mayR at h
  cases e : ((decide (a = b) || !ownR p a (tu p)) || ownR p b (tu p)) with
  | true => rw [if_pos e] at h; cases h
  | false =>
    obtain ⟨e1, e2⟩ := Bool.or_eq_false_iff.1 e
    obtain ⟨e3, e4⟩ := Bool.or_eq_false_iff.1 e1
    exact ⟨by simpa using e4, e2, of_decide_eq_false e3⟩
theorem may_pawn_is {p : Pos} {a b : Int} (h : mayR p a b = true) (hk : kind (pb p a) = 1) : pawnR p a b = true := by
  unfold mayR at h
  split at h
  · cases h
  · rw [if_pos (decide_eq_true hk)] at h; exact h
theorem hits_pawn {p : Pos} {a b : Int} (hk : kind (pb p a) = 1) (h : hits p a b = true) : upOf a b = (if pb p a / 8 = 0 then 1 else -1) ∧ asideOf a b = 1 := by
  unfold hits at h
  rw [if_pos hk] at h
  split at h
  · rename_i h0
    rw [if_pos h0]
    simpa using h
  · rename_i h0
    rw [if_neg h0]
    simpa using h
theorem pawn_straight {p : Pos} {a b : Int} (h : pawnR p a b = true) (hh : hits p a b = false) : b = a + upR (tu p) ∨ b = a + 2 * upR (tu p) := by
  unfold pawnR at h
  rw [if_neg (by rw [hh]; simp)] at h
  split at h
  · rename_i h1; exact .inl (of_decide_eq_true h1)
  · simp only [Bool.and_eq_true, decide_eq_true_eq] at h; exact .inr h.1.1.1
theorem may_pawn {p : Pos} {a b : Int} (h : mayR p a b = true) (hk : kind (pb p a) = 1) (h8 : ¬ a % 8 = b % 8) (h0 : 0 ≤ a) (h1 : a < 64) (h2 : 0 ≤ b) (h3 : b < 64) : b / 8 - a / 8 = if tu p = 0 then 1 else -1 := by
  have ho := own_tu (may_own h).1
  have hp := may_pawn_is h hk
  cases hh : hits p a b with
  | true =>
    have := (hits_pawn hk hh).1
    rw [ho] at this; exact this
  | false =>
    have h4 := pawn_straight hp hh
    have h5 := upR_val (tu p)
    omega
theorem takenR_rng {p : Pos} (hp : POK p) (m : Mv) : -1 ≤ takenR p m ∧ takenR p m < 64 := by
  unfold takenR
  split
  · exact ⟨by decide, by decide⟩
  · rename_i h
    have hi := isR_rng (p := p) (m := m) (by simpa using h)
    split
    · omega
    · split
      · rename_i hk
        obtain ⟨k1, k2⟩ := Bool.and_eq_true_iff.1 hk
        have k3 : ¬ mF m % 8 = mT m % 8 := ndec k2
        have hmay := isR_may (p := p) (m := m) (by simpa using h)
        have hg := may_pawn hmay (of_decide_eq_true k1) k3 hi.1 hi.2.1 hi.2.2.1 hi.2.2.2.1
        unfold upR; split <;> omega
      · exact ⟨by decide, by decide⟩
def blowTo (q : Pos) (b : BitVec 64) : Nat → Pos
  | 0 => q
  | n + 1 => if bitAt b (n : Int) = true then putB (blowTo q b n) (n : Int) 0 else blowTo q b n
theorem blow_yes {q : Pos} {b : BitVec 64} {i : Nat} (h : bitAt b (i : Int) = true) : blowTo q b (i + 1) = putB (blowTo q b i) (i : Int) 0 := by rw [blowTo, if_pos h]
theorem blow_no {q : Pos} {b : BitVec 64} {i : Nat} (h : bitAt b (i : Int) = false) : blowTo q b (i + 1) = blowTo q b i := by rw [blowTo, if_neg xawy]
theorem POK_blowTo {q : Pos} (hq : POK q) (b : BitVec 64) : ∀ n, POK (blowTo q b n)
  | 0 => hq
  | n + 1 => by
    rw [blowTo]; split
    · exact POK_put (POK_blowTo hq b n) _ yd yd
    · exact POK_blowTo hq b n
theorem POK_menR {p : Pos} {m : Mv} (hp : POK p) (hm : MOK m) (hL : LMv p m) (tk : Int) : POK (menR p m tk) := by
  unfold menR
  split
  · exact POK_putP (POK_putP (POK_put (POK_put hp _ yd yd) _ yd yd) _ hp _) _ hp _
  · split
    · rename_i hd
      have hD := hL.d (ndec hd)
      have hr := pkAt_rng hp (tu p) (mD m)
      have h1 := hp.tu
      have h2 := hL.t
      exact POK_put (POK_setPk hp _ _ yo yo) _ yo yo
    · exact POK_men3r hp hm hL (POK_men2 (POK_men1 hp tk) hp m)
theorem POK_pocketR {p q : Pos} (hq : POK q) (m : Mv) (tk : Int) : POK (pocketR p q m tk) := by
  unfold pocketR
  split
  · exact hq
  · split
    · split
      · exact POK_setPm (POK_setPm hq _) _
      · exact hq
    · exact POK_setPm (POK_pk2 hq tk) _
def md2 (p : Pos) (m : Mv) : Pos := pocketR p (menR p m (takenR p m)) m (takenR p m)
def md3 (p : Pos) (m : Mv) : Pos := if (decide (vr p = 3) && decide (0 ≤ takenR p m)) = true then blowTo (md2 p m) (blownR (md2 p m) (mT m)) 64 else md2 p m
def md4 (p : Pos) (m : Mv) : Pos := rightsR p (md3 p m) m (takenR p m)
def md5 (p : Pos) (m : Mv) (q : Pos) : Pos := setPg q (passR p q m)
def pawnM (p : Pos) (m : Mv) : Bool := decide (mD m = 1) || (decide (mD m = 0) && decide (kind (pb p (mF m)) = 1))
def md7 (p : Pos) (m : Mv) (q : Pos) : Pos := if (pawnM p m || decide (0 ≤ takenR p m)) = true then setHf (setHf (md5 p m q) (moreP (hf p))) 0 else setHf (md5 p m q) (moreP (hf p))
def md8 (p : Pos) (m : Mv) (q : Pos) : Pos := if decide (tu p = 1) = true then setFl (md7 p m q) (moreP (fl p)) else md7 p m q
def md9 (p : Pos) (m : Mv) (q : Pos) : Pos := setTu (md8 p m q) (1 - tu p)
def mdE (p : Pos) (q : Pos) : Pos := if ((decide (vr q = 5) && decide (ckAt q (tu p) < 3)) && refCheck q (tu q)) = true then setCk q (tu p) (ckAt q (tu p) + 1) else q
def madeR (p : Pos) (m : Mv) : Pos := mdE p (md9 p m (md4 p m))
section
variable {p : Pos} {m : Mv} (hp : POK p)
include hp
theorem POK_md3 (hm : MOK m) (hL : LMv p m) : POK (md3 p m) := by
  have h : POK (md2 p m) := POK_pocketR (POK_menR hp hm hL _) m _
  unfold md3; split
  · exact POK_blowTo h _ 64
  · exact h
variable {q : Pos} (hL : LMv p m)
include hL
theorem POK_md5 (hq : POK q) : POK (md5 p m q) := by
  have h := passR_rng p q m hL
  exact POK_setPg hq h.1 h.2
theorem POK_md7 (hq : POK q) : POK (md7 p m q) := by
  have h := POK_setHf (POK_md5 hp hL hq) (more_rng hp.hf)
  unfold md7; split
  · exact POK_setHf h ⟨by decide, by decide⟩
  · exact h
theorem POK_md8 (hq : POK q) : POK (md8 p m q) := by
  have h := POK_md7 hp hL hq
  unfold md8; split
  · exact POK_setFl h (more_rng hp.fl)
  · exact h
theorem POK_md9 (hq : POK q) : POK (md9 p m q) := by
  have h1 := hp.tu
  have h2 := hL.t
  exact POK_setTu (POK_md8 hp hL hq) yo yo
theorem POK_mdE (h : POK q) : POK (mdE p q) := by
  have hk := ckAt_rng h (tu p)
  unfold mdE; split
  · rename_i hc
    have := of_decide_eq_true (Bool.and_eq_true_iff.1 (Bool.and_eq_true_iff.1 hc).1).2
    exact POK_setCk h _ yo yo
  · exact h
end
theorem POK_madeR {p : Pos} {m : Mv} (hp : POK p) (hm : MOK m) (hL : LMv p m) : POK (madeR p m) :=
  POK_mdE hp hL (POK_md9 hp hL (POK_rightsR (POK_md3 hp hm hL) m _))

theorem c_ref16_rights (p : Pos) (hp : POK p) (q : Pos) (hq : POK q) (m : Mv) (hm : MOK m) (tk : Int) (M : List Fact) (hL : LMv p m) (htk : -1 ≤ tk ∧ tk < 64) : Pure Tryz.prog 123 [enc posT p, enc posT q, enc moveT m, .int .i64 tk] M (enc posT (rightsR p q m tk)) := by
 have hb := hp.board
 have hpw := hp.wf
 have hvr := hp.vr
 have htu := hp.tu
 have hpg := hp.pg
 have hvr0 := hp.vr
 have htu0 := hp.tu
 simp only [vr] at hvr0
 simp only [tu] at htu0
 have hmF := hm.f
 have hmT := hm.t
 have hmP := hm.p
 have hmD := hm.d
 have hmF0 := hm.f
 have hmT0 := hm.t
 have hmP0 := hm.p
 have hmD0 := hm.d
 simp only [mF] at hmF0
 simp only [mT] at hmT0
 simp only [mP] at hmP0
 simp only [mD] at hmD0
 have ht := hL.t
 have ht2 := hL.t
 simp only [tu] at ht2
 have hF := hL.f
 have hF0 := hL.f
 simp only [mF] at hF0
 have hT := hL.to
 have hT0 := hL.to
 simp only [mT] at hT0
 have hmw := wf_move m
 have hqw := hq.wf
 have hr1 := POK_rr1 (p := p) hq m
 refine pure_of_W (n := 103) Tryz.func123 rfl rfl yn ?_
 refine W_seq (W_regl fun w0 => ?_)
 refine LO_l rfl (by decide : 4 < 103) (ol_box (t := posT) rfl rfl rfl yf (fun b1 => ?_))
 refine LO_l rfl (by decide : 5 < 103) (ol_box (t := posT) rfl rfl rfl yf (fun b2 => ?_))
 refine LO_l rfl (by decide : 6 < 103) (ol_box (t := moveT) rfl rfl rfl yf (fun b3 => ?_))
 refine LO_l rfl (by decide : 8 < 103) (ol_alloc (t := posT) rfl tok31 yf (fun b4 => ?_))
 refine LO_nil ?_
 refine W_cut [(3, .int .i64 tk), (5, ptrv b2 posT []), (6, ptrv b3 moveT []), (8, ptrv b4 posT [])] (.box b4 31 posT (zero posT) :: .box b3 55 moveT m :: .box b2 31 posT (rr1 p q m) :: .box b1 31 posT p :: M) ?_ ?_
 ·
  refine W_seq (W_reg ?_)
  refine yR (ov_fieldAddr rfl rfl fa55_3 rfl) ?_
  refine yR (ov_load rfl rfl ye ⟨trivial, yn⟩ rfl rfl tok5) ?_
  refine yR (ov_eql rfl rfl rfl) ?_
  refine yM ?_
  refine yG (fun hg => OpX.v (ov_fieldAddr rfl rfl fa55_0 rfl)) ?_
  refine yG (fun hg => OpX.v (ov_load rfl (look_gv rfl (bq hg)) ye ⟨trivial, yn⟩ rfl rfl tok26)) ?_
  refine yG (fun hg => OpX.v (ov_fieldAddr rfl rfl fa31_1 rfl)) ?_
  refine yG (fun hg => OpX.v (ov_indexAddr rfl (look_gv rfl (bq hg)) (look_gv rfl (bq hg)) Tryz.underlying22 rfl Tryz.sizeOf5 ya ya)) ?_
  refine yG (fun hg => OpX.v (ov_load rfl (look_gv rfl (bq hg)) ye ⟨⟨trivial, yn⟩, (tn ya ya)⟩ rfl rfl tok5)) ?_
  refine yG (fun hg => yV rfl rfl (looks_cons (look_gv rfl (bq hg)) looks_nil) Tryz.call84 xaqy) ?_
  refine yG (fun hg => OpX.v (ov_eql rfl (look_gv rfl (bq hg)) rfl)) ?_
  refine yR (ov_and rfl rfl rfl rfl (fun h => bq h)) ?_
  refine RO_nil ?_
  refine W_cond rfl (fun hc1 => ?_) (fun hc1 => ?_)
  ·
   refine W_regl (fun w0 => ?_)
   refine yL (ov_fieldAddr rfl rfl fa31_4 rfl) ?_
   refine yL (ov_load rfl rfl ye ⟨trivial, yn⟩ rfl rfl tok5) ?_
   refine yL (ov_buildA (t := i8) (ds := [(0, _), (1, _)]) rfl rfl bl27 ⟨yn, yf, ⟨yn, yf, trivial⟩⟩ rfl) ?_
   refine yL (ov_fieldAddr rfl rfl fa31_5 rfl) ?_
   refine yL (ov_indexAddr rfl rfl rfl Tryz.underlying28 rfl Tryz.sizeOf27 ya ya) ?_
   refine LO_l rfl trivial (ol_st2 rfl rfl rfl ⟨⟨trivial, yn⟩, (tn ya ya)⟩ rfl yf tok27 ?_)
   refine LO_nil ?_
   exact ⟨⟨rfl, rfl, rfl, rfl, trivial⟩, (by first | (rw [show rr1 p q m = _ from if_pos hc1]; exact yb) | (rw [show rr1 p q m = q from if_neg (Bool.eq_false_iff.1 hc1)]; exact yb))⟩
  ·
   refine W_skip ?_
   exact ⟨⟨rfl, rfl, rfl, rfl, trivial⟩, (by first | (rw [show rr1 p q m = _ from if_pos hc1]; exact yb) | (rw [show rr1 p q m = q from if_neg (Bool.eq_false_iff.1 hc1)]; exact yb))⟩
 ·
  refine W_seq ?_
  refine W_seq (W_reg ?_)
  refine yA_ ?_
  refine RO_nil ?_
  refine W_block ?_
  refine W_loop (σ := Nat) (fun s5 => s5 ≤ 2) (fun s5 => [(3, .int .i64 tk), (5, ptrv b2 posT []), (6, ptrv b3 moveT []), (8, ptrv b4 posT []), (9, .int .u8 (s5 : Int))]) (fun s5 => .box b4 31 posT (zero posT) :: .box b3 55 moveT m :: .box b2 31 posT (rrC m tk (rr1 p q m) s5) :: .box b1 31 posT p :: M) (fun s5 => 2 - s5) (0) (by simp) ⟨rfl, rfl, rfl, rfl, rfl, trivial⟩ yb ?_
  rintro i hI
  refine W_seq ?_
  refine W_seq (W_reg ?_)
  refine yM ?_
  refine yR (ov_lss rfl rfl rfl) ?_
  refine RO_nil ?_
  refine W_cond rfl (fun hc2 => ?_) (fun hc2 => ?_)
  ·
   try simp only [yS] at hc2
   have hpi := POK_rrC hr1 m tk i yo
   have hkr := find_rng (rrC m tk (rr1 p q m) i) (i : Int) 6
   refine W_skip ?_
   refine W_seq ?_
   refine W_block ?_
   refine W_seq (W_reg ?_)
   refine yM ?_
   refine yR (ov_convn rfl rfl Tryz.underlying5 Tryz.underlying3 ya) ?_
   refine yR (ov_mul rfl rfl rfl ya) ?_
   refine yA_ ?_
   refine RO_nil ?_
   refine W_seq (W_reg ?_)
   refine yR (ov_load rfl rfl ye trivial rfl rfl tok31) ?_
   refine yM ?_
   refine yP (yV rfl rfl rfl Tryz.call88 (c_ref08_Find (rrC m tk (rr1 p q m) i) hpi (i : Int) 6 _)) ?_
   refine yA_ ?_
   refine RO_nil ?_
   refine W_seq (W_reg ?_)
   refine yA_ ?_
   refine RO_nil ?_
   refine W_block ?_
   refine W_loop (σ := Nat) (fun s6 => s6 ≤ 2) (fun s6 => [(3, .int .i64 tk), (5, ptrv b2 posT []), (6, ptrv b3 moveT []), (8, ptrv b4 posT []), (9, .int .u8 (i : Int)), (10, .int .i64 (56 * (i : Int))), (11, .int .i64 (find (rrC m tk (rr1 p q m) i) (i : Int) 6)), (12, .int .i64 (s6 : Int))]) (fun s6 => .box b4 31 posT (zero posT) :: .box b3 55 moveT m :: .box b2 31 posT (rrJ m tk (rrC m tk (rr1 p q m) i) (i : Int) s6) :: .box b1 31 posT p :: M) (fun s6 => 2 - s6) (0) (by simp) ⟨rfl, rfl, rfl, rfl, rfl, rfl, rfl, rfl, trivial⟩ yb ?_
   rintro j hJ
   refine W_seq ?_
   refine W_seq (W_reg ?_)
   refine yM ?_
   refine yR (ov_lss rfl rfl rfl) ?_
   refine RO_nil ?_
   refine W_cond rfl (fun hc3 => ?_) (fun hc3 => ?_)
   ·
    try simp only [yS] at hc3
    have hpj := POK_rrJ hpi m tk (i : Int) j
    have hwj := hpj.wf
    have hbj := hpj.board
    have hfr : -128 ≤ (rkAt (rrJ m tk (rrC m tk (rr1 p q m) i) (i : Int) j) (i : Int) (j : Int)) ∧ (rkAt (rrJ m tk (rrC m tk (rr1 p q m) i) (i : Int) j) (i : Int) (j : Int)) ≤ 127 := rkAt_rng hpj (i : Int) (j : Int)
    have hfr0 : @LE.le Int _ (-128) (((rrJ m tk (rrC m tk (rr1 p q m) i) (i : Int) j).2.2.2.2.2.1.getD ((i : Nat) : Int).toNat (zero (.ar 2 i8))).getD ((j : Nat) : Int).toNat (zero i8)) ∧ @LE.le Int _ (((rrJ m tk (rrC m tk (rr1 p q m) i) (i : Int) j).2.2.2.2.2.1.getD ((i : Nat) : Int).toNat (zero (.ar 2 i8))).getD ((j : Nat) : Int).toNat (zero i8)) 127 := hfr
    refine W_skip ?_
    refine W_seq ?_
    refine W_block ?_
    refine W_seq (W_reg ?_)
    refine yM ?_
    refine yM ?_
    refine yR (ov_fieldAddr rfl rfl fa31_5 rfl) ?_
    refine yR (ov_indexAddr rfl rfl rfl Tryz.underlying28 rfl Tryz.sizeOf27 ya ya) ?_
    refine yR (ov_indexAddr rfl rfl rfl Tryz.underlying27 rfl Tryz.sizeOf26 ya ya) ?_
    refine yR (ov_load rfl rfl ye ⟨⟨⟨trivial, yn⟩, (tn ya ya)⟩, (tn ya ya)⟩ rfl rfl tok26) ?_
    refine yR (ov_convn rfl rfl Tryz.underlying26 Tryz.underlying3 ya) ?_
    refine yA_ ?_
    refine RO_nil ?_
    refine W_seq ?_
    refine W_seq (W_reg ?_)
    refine yM ?_
    refine yR (ov_lss rfl rfl rfl) ?_
    refine yM ?_
    refine yG (fun hg => OpX.v (ov_move rfl rfl)) ?_
    refine yG (fun hg => OpX.v (ov_gtr rfl (look_gv rfl (bq hg)) rfl)) ?_
    refine yR (ov_or rfl rfl rfl rfl (fun h => bq h)) ?_
    refine RO_nil ?_
    refine W_cond rfl (fun hc4 => ?_) (fun hc4 => ?_)
    ·
     refine W_exit ?_
     refine W_reg ?_
     refine yM ?_
     refine yR (ov_add rfl rfl rfl ya) ?_
     refine yA_ ?_
     refine RO_nil ?_
     exact ⟨j + 1, yo, yo, ⟨rfl, rfl, rfl, rfl, rfl, rfl, rfl, rfl, trivial⟩, xapy⟩
    ·
     have hf0 : 0 ≤ (rkAt (rrJ m tk (rrC m tk (rr1 p q m) i) (i : Int) j) (i : Int) (j : Int)) := Int.not_lt.1 (of_decide_eq_false (Bool.or_eq_false_iff.1 hc4).1)
     have hf7 : (rkAt (rrJ m tk (rrC m tk (rr1 p q m) i) (i : Int) j) (i : Int) (j : Int)) ≤ 7 := Int.not_lt.1 (of_decide_eq_false (Bool.or_eq_false_iff.1 hc4).2)
     have hf00 : @LE.le Int _ 0 (((rrJ m tk (rrC m tk (rr1 p q m) i) (i : Int) j).2.2.2.2.2.1.getD ((i : Nat) : Int).toNat (zero (.ar 2 i8))).getD ((j : Nat) : Int).toNat (zero i8)) := hf0
     have hf77 : @LE.le Int _ (((rrJ m tk (rrC m tk (rr1 p q m) i) (i : Int) j).2.2.2.2.2.1.getD ((i : Nat) : Int).toNat (zero (.ar 2 i8))).getD ((j : Nat) : Int).toNat (zero i8)) 7 := hf7
     refine W_skip ?_
     refine W_seq (W_reg ?_)
     refine yM ?_
     refine yM ?_
     refine yR (ov_add rfl rfl rfl ya) ?_
     refine yA_ ?_
     refine RO_nil ?_
     refine W_seq (W_reg ?_)
     refine yM ?_
     refine yM ?_
     refine yR (ov_lss rfl rfl rfl) ?_
     refine yM ?_
     refine yG (fun hg => OpX.v (ov_move rfl rfl)) ?_
     refine yG (fun hg => OpX.v (ov_move rfl rfl)) ?_
     refine yG (fun hg => OpX.v (ov_add rfl (look_gv rfl (bq hg)) rfl ya)) ?_
     refine yG (fun hg => OpX.v (ov_gtr rfl (look_gv rfl (bq hg)) (look_gv rfl (bq hg)))) ?_
     refine yR (ov_or rfl rfl rfl rfl (fun h => bq h)) ?_
     refine yM ?_
     refine yG (fun hg => OpX.v (ov_load rfl rfl ye trivial rfl rfl tok31)) ?_
     refine yG (fun hg => OpX.v (ov_move rfl rfl)) ?_
     refine yG (fun hg => OpX.v (ov_move rfl rfl)) ?_
     refine RO_g1 rfl rfl rfl rfl rfl yd (fun hg => by have hgx := hg; (try simp only [yS] at hgx); exact yV rfl rfl (looks_cons (look_gv rfl (bq hg)) (looks_cons (look_gv rfl (bq hg)) (looks_cons (look_gv rfl (bq hg)) (looks_cons rfl looks_nil)))) Tryz.call89 (c_ref08_Is (rrJ m tk (rrC m tk (rr1 p q m) i) (i : Int) j) hpj _ (i : Int) 4 _ yo yo)) ?_
     refine yG (fun hg => OpX.v (ov_not rfl (look_gv rfl (bq hg)))) ?_
     refine yR (ov_or rfl rfl rfl rfl (fun h => bq h)) ?_
     refine yM ?_
     refine yG (fun hg => OpX.v (ov_move rfl rfl)) ?_
     refine yG (fun hg => OpX.v (ov_move rfl rfl)) ?_
     refine yG (fun hg => OpX.v (ov_eql rfl (look_gv rfl (bq hg)) (look_gv rfl (bq hg)))) ?_
     refine yR (ov_or rfl rfl rfl rfl (fun h => bq h)) ?_
     refine yM ?_
     refine yG (fun hg => OpX.v (ov_fieldAddr rfl rfl fa55_3 rfl)) ?_
     refine yG (fun hg => OpX.v (ov_load rfl (look_gv rfl (bq hg)) ye ⟨trivial, yn⟩ rfl rfl tok5)) ?_
     refine yG (fun hg => OpX.v (ov_eql rfl (look_gv rfl (bq hg)) rfl)) ?_
     refine yG (fun hg => OpX.v (ov_move rfl (look_gv rfl (bq hg)))) ?_
     refine RO_g rfl rfl rfl rfl rfl yd (fun hg1 hg2 => OpX.v (ov_fieldAddr rfl rfl fa55_0 rfl)) ?_
     refine RO_g rfl rfl rfl rfl rfl yd (fun hg1 hg2 => OpX.v (ov_load rfl (look_gv rfl (bq2 hg1 hg2)) ye ⟨trivial, yn⟩ rfl rfl tok26)) ?_
     refine RO_g rfl rfl rfl rfl rfl yd (fun hg1 hg2 => OpX.v (ov_convn rfl (look_gv rfl (bq2 hg1 hg2)) Tryz.underlying26 Tryz.underlying3 ya)) ?_
     refine RO_g rfl rfl rfl rfl rfl yd (fun hg1 hg2 => OpX.v (ov_move rfl rfl)) ?_
     refine RO_g rfl rfl rfl rfl rfl yd (fun hg1 hg2 => OpX.v (ov_eql rfl (look_gv rfl (bq2 hg1 hg2)) (look_gv rfl (bq2 hg1 hg2)))) ?_
     refine yG (fun hg => OpX.v (ov_and rfl (look_gv rfl (bq hg)) rfl rfl (fun h => bq2 (bq hg) h))) ?_
     refine yR (ov_or rfl rfl rfl rfl (fun h => bq h)) ?_
     refine yA_ ?_
     refine RO_nil ?_
     refine W_seq (W_reg ?_)
     refine yM ?_
     refine RO_nil ?_
     refine W_cond rfl (fun hc5 => ?_) (fun hc5 => ?_)
     ·
      refine W_regl (fun w0 => ?_)
      refine zM ?_
      refine zM ?_
      refine yL (ov_fieldAddr rfl rfl fa31_5 rfl) ?_
      refine yL (ov_indexAddr rfl rfl rfl Tryz.underlying28 rfl Tryz.sizeOf27 ya ya) ?_
      refine yL (ov_indexAddr rfl rfl rfl Tryz.underlying27 rfl Tryz.sizeOf26 ya ya) ?_
      refine LO_l rfl trivial (ol_st2 rfl rfl rfl ⟨⟨⟨trivial, yn⟩, (tn ya ya)⟩, (tn ya ya)⟩ rfl yf tok26 ?_)
      refine LO_nil ?_
      refine W_reg ?_
      refine yM ?_
      refine yR (ov_add rfl rfl rfl ya) ?_
      refine yA_ ?_
      refine RO_nil ?_
      exact ⟨j + 1, yo, yo, ⟨rfl, rfl, rfl, rfl, rfl, rfl, rfl, rfl, trivial⟩, xapy⟩
     ·
      refine W_skip ?_
      refine W_reg ?_
      refine yM ?_
      refine yR (ov_add rfl rfl rfl ya) ?_
      refine yA_ ?_
      refine RO_nil ?_
      exact ⟨j + 1, yo, yo, ⟨rfl, rfl, rfl, rfl, rfl, rfl, rfl, rfl, trivial⟩, xapy⟩
   ·
    try simp only [yS] at hc3
    refine W_exit ?_
    refine W_reg ?_
    refine yM ?_
    refine yR (ov_add rfl rfl rfl ya) ?_
    refine yA_ ?_
    refine RO_nil ?_
    exact ⟨i + 1, yo, yo, ⟨rfl, rfl, rfl, rfl, rfl, trivial⟩, (by rw [rrC_next m tk (rr1 p q m) (i := i) (j := j) yo]; exact yb)⟩
  ·
   try simp only [yS] at hc2
   refine W_exit ?_
   refine W_seq ?_
   have hwe := (POK_rrC hr1 m tk i yo).wf
   refine W_regl (fun w0 => ?_)
   refine yL (ov_load rfl rfl ye trivial rfl rfl tok31) ?_
   refine LO_l rfl trivial (ol_sw0 rfl rfl rfl rfl yf tok31 ?_)
   refine LO_nil ?_
   refine W_ret ?_
   refine ⟨trivial, yb, (ResV_cell rfl rfl ye rfl tok31 ?_)⟩
   exact val_enc (by rw [show i = 2 by omega]; rfl)

theorem c_ref16_passing (p : Pos) (hp : POK p) (q : Pos) (hq : POK q) (m : Mv) (hm : MOK m) (M : List Fact) (hL : LMv p m) : Pure Tryz.prog 124 [enc posT p, enc posT q, enc moveT m] M (.int .i8 (passR p q m)) := by
 have hb := hp.board
 have hpw := hp.wf
 have hvr := hp.vr
 have htu := hp.tu
 have hpg := hp.pg
 have hvr0 := hp.vr
 have htu0 := hp.tu
 simp only [vr] at hvr0
 simp only [tu] at htu0
 have hmF := hm.f
 have hmT := hm.t
 have hmP := hm.p
 have hmD := hm.d
 have hmF0 := hm.f
 have hmT0 := hm.t
 have hmP0 := hm.p
 have hmD0 := hm.d
 simp only [mF] at hmF0
 simp only [mT] at hmT0
 simp only [mP] at hmP0
 simp only [mD] at hmD0
 have ht := hL.t
 have ht2 := hL.t
 simp only [tu] at ht2
 have hF := hL.f
 have hF0 := hL.f
 simp only [mF] at hF0
 have hT := hL.to
 have hT0 := hL.to
 simp only [mT] at hT0
 have hmw := wf_move m
 have hqw := hq.wf
 have hqb := hq.board
 have hup := upR_val (tu p)
 have hup0 : upR p.2.2.2.2.1 = 8 ∨ upR p.2.2.2.2.1 = -8 := hup
 refine pure_of_W (n := 69) Tryz.func124 rfl rfl yn ?_
 refine W_seq (W_regl fun w0 => ?_)
 refine LO_l rfl (by decide : 3 < 69) (ol_box (t := posT) rfl rfl rfl yf (fun b1 => ?_))
 refine LO_l rfl (by decide : 4 < 69) (ol_box (t := posT) rfl rfl rfl yf (fun b2 => ?_))
 refine LO_l rfl (by decide : 5 < 69) (ol_box (t := moveT) rfl rfl rfl yf (fun b3 => ?_))
 refine zA ?_
 refine LO_nil ?_
 refine W_seq ?_
 refine W_seq (W_reg ?_)
 refine yR (ov_fieldAddr rfl rfl fa55_3 rfl) ?_
 refine yR (ov_load rfl rfl ye ⟨trivial, yn⟩ rfl rfl tok5) ?_
 refine yR (ov_neq rfl rfl rfl) ?_
 refine yM ?_
 refine yG (fun hg => OpX.v (ov_fieldAddr rfl rfl fa55_4 rfl)) ?_
 refine yG (fun hg => OpX.v (ov_load rfl (look_gv rfl (bq hg)) ye ⟨trivial, yn⟩ rfl rfl tok4)) ?_
 refine yR (ov_or rfl rfl rfl rfl (fun h => bq h)) ?_
 refine yM ?_
 refine yG (fun hg => OpX.v (ov_fieldAddr rfl rfl fa55_0 rfl)) ?_
 refine yG (fun hg => OpX.v (ov_load rfl (look_gv rfl (bq hg)) ye ⟨trivial, yn⟩ rfl rfl tok26)) ?_
 refine yG (fun hg => OpX.v (ov_fieldAddr rfl rfl fa31_1 rfl)) ?_
 refine yG (fun hg => OpX.v (ov_indexAddr rfl (look_gv rfl (bq hg)) (look_gv rfl (bq hg)) Tryz.underlying22 rfl Tryz.sizeOf5 ya ya)) ?_
 refine yG (fun hg => OpX.v (ov_load rfl (look_gv rfl (bq hg)) ye ⟨⟨trivial, yn⟩, (tn ya ya)⟩ rfl rfl tok5)) ?_
 refine yG (fun hg => yV rfl rfl (looks_cons (look_gv rfl (bq hg)) looks_nil) Tryz.call84 xaqy) ?_
 refine yG (fun hg => OpX.v (ov_neq rfl (look_gv rfl (bq hg)) rfl)) ?_
 refine yR (ov_or rfl rfl rfl rfl (fun h => bq h)) ?_
 refine RO_nil ?_
 refine W_cond rfl (fun hc1 => ?_) (fun hc1 => ?_)
 ·
  refine W_seq (W_reg ?_)
  refine yA_ ?_
  refine RO_nil ?_
  refine W_ret ?_
  refine ⟨trivial, yb, (ResV_tmp1 rfl rfl ?_)⟩
  exact xbxy
 ·
  refine W_skip ?_
  refine W_seq (W_reg ?_)
  refine yR (ov_fieldAddr rfl rfl fa31_4 rfl) ?_
  refine yR (ov_load rfl rfl ye ⟨trivial, yn⟩ rfl rfl tok5) ?_
  refine yP (yV rfl rfl rfl Tryz.call156 (by apply c_ref13_Up <;> exact yz)) ?_
  refine yA_ ?_
  refine RO_nil ?_
  refine W_seq (W_reg ?_)
  refine yR (ov_fieldAddr rfl rfl fa55_0 rfl) ?_
  refine yR (ov_load rfl rfl ye ⟨trivial, yn⟩ rfl rfl tok26) ?_
  refine yR (ov_convn rfl rfl Tryz.underlying26 Tryz.underlying3 ya) ?_
  refine yA_ ?_
  refine RO_nil ?_
  refine W_seq ?_
  refine W_seq (W_reg ?_)
  refine yR (ov_fieldAddr rfl rfl fa55_1 rfl) ?_
  refine yR (ov_load rfl rfl ye ⟨trivial, yn⟩ rfl rfl tok26) ?_
  refine yR (ov_convn rfl rfl Tryz.underlying26 Tryz.underlying3 ya) ?_
  refine yM ?_
  refine yM ?_
  refine yR (ov_mul rfl rfl rfl ya) ?_
  refine yR (ov_add rfl rfl rfl ya) ?_
  refine yR (ov_neq rfl rfl rfl) ?_
  refine yM ?_
  refine yG (fun hg => OpX.v (ov_fieldAddr rfl rfl fa31_4 rfl)) ?_
  refine yG (fun hg => OpX.v (ov_load rfl (look_gv rfl (bq hg)) ye ⟨trivial, yn⟩ rfl rfl tok5)) ?_
  refine yG (fun hg => OpX.v (ov_move rfl rfl)) ?_
  refine yG (fun hg => yV rfl rfl (looks_cons (look_gv rfl (bq hg)) (looks_cons (look_gv rfl (bq hg)) looks_nil)) Tryz.call133 (by apply c_ref13_Rank <;> exact yz)) ?_
  refine yG (fun hg => OpX.v (ov_neq rfl (look_gv rfl (bq hg)) rfl)) ?_
  refine yR (ov_or rfl rfl rfl rfl (fun h => bq h)) ?_
  refine RO_nil ?_
  refine W_cond rfl (fun hc2 => ?_) (fun hc2 => ?_)
  ·
   refine W_seq (W_reg ?_)
   refine yA_ ?_
   refine RO_nil ?_
   refine W_ret ?_
   refine ⟨trivial, yb, (ResV_tmp1 rfl rfl ?_)⟩
   exact xbxy
  ·
   have hto : mT m = mF m + 2 * upR (tu p) := pass_to hc2
   have hto0 := hto
   simp only [mF, mT, tu] at hto0
   refine W_skip ?_
   refine W_seq ?_
   refine W_seq (W_reg ?_)
   refine yA_ ?_
   refine RO_nil ?_
   refine W_block ?_
   refine W_loop (σ := Nat) (fun i => i ≤ 64 ∧ okTo (passF p q m) i = true) (fun i => [(3, ptrv b1 posT []), (4, ptrv b2 posT []), (7, .int .i64 (upR (tu p))), (8, .int .i64 (mF m)), (9, .int .i64 (i : Int))]) (fun i => .box b3 55 moveT _ :: .box b2 31 posT _ :: .box b1 31 posT _ :: M) (fun i => 64 - i) (0) ⟨by omega, rfl⟩ ⟨rfl, rfl, rfl, rfl, rfl, trivial⟩ yb ?_
   rintro i ⟨hI, hN⟩
   refine W_seq ?_
   refine W_seq (W_reg ?_)
   refine yM ?_
   refine yR (ov_lss rfl rfl rfl) ?_
   refine RO_nil ?_
   refine W_cond rfl (fun hc3 => ?_) (fun hc3 => ?_)
   ·
    try simp only [yS] at hc3
    refine W_skip ?_
    refine W_seq ?_
    refine W_block ?_
    refine W_seq (W_reg ?_)
    refine yR (ov_load rfl rfl ye trivial rfl rfl tok31) ?_
    refine yM ?_
    refine yR (ov_fieldAddr rfl rfl fa31_4 rfl) ?_
    refine yR (ov_load rfl rfl ye ⟨trivial, yn⟩ rfl rfl tok5) ?_
    refine yR (ov_sub rfl rfl rfl ya) ?_
    refine yP (yV rfl rfl rfl Tryz.call89 (c_ref08_Is q hq _ (1 - tu p) 1 _ yo yo)) ?_
    refine yM ?_
    refine yG (fun hg => OpX.v (ov_load rfl rfl ye trivial rfl rfl tok31)) ?_
    refine yG (fun hg => OpX.v (ov_move rfl rfl)) ?_
    refine yG (fun hg => OpX.v (ov_move rfl rfl)) ?_
    refine yG (fun hg => OpX.v (ov_move rfl rfl)) ?_
    refine yG (fun hg => OpX.v (ov_add rfl (look_gv rfl (bq hg)) (look_gv rfl (bq hg)) ya)) ?_
    refine yG (fun hg => yV rfl rfl (looks_cons (look_gv rfl (bq hg)) (looks_cons (look_gv rfl (bq hg)) (looks_cons (look_gv rfl (bq hg)) looks_nil))) Tryz.call90 (c_ref08_Hits q hq (i : Int) (mF m + upR (tu p)) _ yo yo yo yo)) ?_
    refine yR (ov_and rfl rfl rfl rfl (fun h => bq h)) ?_
    refine RO_nil ?_
    refine W_cond rfl (fun hc4 => ?_) (fun hc4 => ?_)
    ·
     refine W_seq (W_reg ?_)
     refine yM ?_
     refine yM ?_
     refine yR (ov_add rfl rfl rfl ya) ?_
     refine yR (ov_convn rfl rfl Tryz.underlying3 Tryz.underlying26 ya) ?_
     refine yA_ ?_
     refine RO_nil ?_
     refine W_ret ?_
     refine ⟨trivial, yb, (ResV_tmp1 rfl rfl ?_)⟩
     exact xbxy
    ·
     refine W_skip ?_
     refine W_reg ?_
     refine yM ?_
     refine yR (ov_add rfl rfl rfl ya) ?_
     refine yA_ ?_
     refine RO_nil ?_
     exact ⟨i + 1, yo, ⟨by omega, okTo_next hN hc4⟩, ⟨rfl, rfl, rfl, rfl, rfl, trivial⟩, yb⟩
   ·
    try simp only [yS] at hc3
    refine W_exit ?_
    refine W_seq (W_reg ?_)
    refine yA_ ?_
    refine RO_nil ?_
    refine W_ret ?_
    refine ⟨trivial, yb, (ResV_tmp1 rfl rfl ?_)⟩
    exact xbxy

theorem c_ref16_more (x : Int) (M : List Fact) (h0 : -9223372036854775808 ≤ x) : Pure Tryz.prog 125 [.int .i64 x] M (.int .i64 (moreP x)) := by
 refine pure_of_W (n := 8) Tryz.func125 rfl rfl yn ?_
 refine W_seq (W_reg ?_)
 refine yA_ ?_
 refine RO_nil ?_
 refine W_seq ?_
 refine W_seq (W_reg ?_)
 refine yM ?_
 refine yR (ov_geq rfl rfl rfl) ?_
 refine RO_nil ?_
 refine W_cond rfl (fun hc1 => ?_) (fun hc1 => ?_)
 ·
  try simp only [yS] at hc1
  refine W_seq (W_reg ?_)
  refine yM ?_
  refine yA_ ?_
  refine RO_nil ?_
  refine W_ret ?_
  refine ⟨trivial, yb, (ResV_tmp1 rfl rfl ?_)⟩
  exact val_int (by unfold moreP; first | exact (if_pos xaky).symm | exact (if_neg xaky).symm)
 ·
  try simp only [yS] at hc1
  refine W_skip ?_
  refine W_seq (W_reg ?_)
  refine yM ?_
  refine yR (ov_add rfl rfl rfl ya) ?_
  refine yA_ ?_
  refine RO_nil ?_
  refine W_ret ?_
  refine ⟨trivial, yb, (ResV_tmp1 rfl rfl ?_)⟩
  exact val_int (by unfold moreP; first | exact (if_pos xaky).symm | exact (if_neg xaky).symm)

theorem c_ref16_Made (p : Pos) (hp : POK p) (m : Mv) (hm : MOK m) (M : List Fact) (hL : LMv p m) : Pure Tryz.prog 56 [enc posT p, enc moveT m] M (enc posT (mdE p (md9 p m (md4 p m)))) := by
 have hb := hp.board
 have hpw := hp.wf
 have hvr := hp.vr
 have htu := hp.tu
 have hpg := hp.pg
 have hvr0 := hp.vr
 have htu0 := hp.tu
 simp only [vr] at hvr0
 simp only [tu] at htu0
 have hmF := hm.f
 have hmT := hm.t
 have hmP := hm.p
 have hmD := hm.d
 have hmF0 := hm.f
 have hmT0 := hm.t
 have hmP0 := hm.p
 have hmD0 := hm.d
 simp only [mF] at hmF0
 simp only [mT] at hmT0
 simp only [mP] at hmP0
 simp only [mD] at hmD0
 have ht := hL.t
 have ht2 := hL.t
 simp only [tu] at ht2
 have hF := hL.f
 have hF0 := hL.f
 simp only [mF] at hF0
 have hT := hL.to
 have hT0 := hL.to
 simp only [mT] at hT0
 have hmw := wf_move m
 have htk := takenR_rng hp m
 have hhf := hp.hf
 have hfl := hp.fl
 have hmrh := more_rng hhf
 have hmrf := more_rng hfl
 have hmen := POK_menR hp hm hL (takenR p m)
 have hp2 : POK (md2 p m) := POK_pocketR hmen m (takenR p m)
 have hp3 := POK_md3 hp hm hL
 have hp4 : POK (md4 p m) := POK_rightsR hp3 m (takenR p m)
 have hb2 := hp2.board
 refine pure_of_W (n := 118) Tryz.func56 rfl rfl yn ?_
 refine W_seq (W_regl fun w0 => ?_)
 refine LO_l rfl (by decide : 2 < 118) (ol_box (t := posT) rfl rfl rfl yf (fun b1 => ?_))
 refine LO_l rfl (by decide : 3 < 118) (ol_box (t := moveT) rfl rfl rfl yf (fun b2 => ?_))
 refine LO_l rfl (by decide : 4 < 118) (ol_alloc (t := posT) rfl tok31 yf (fun b3 => ?_))
 refine LO_nil ?_
 refine W_seq (W_reg ?_)
 refine yR (ov_load rfl rfl ye trivial rfl rfl tok31) ?_
 refine yR (ov_load rfl rfl ye trivial rfl rfl tok55) ?_
 refine yP (yV rfl rfl rfl Tryz.call98 (by apply c_ref13_Taken <;> exact yz)) ?_
 refine yA_ ?_
 refine RO_nil ?_
 refine W_seq ?_
 have hwA := hmen.wf
 refine W_regl (fun w0 => ?_)
 refine yL (ov_load rfl rfl ye trivial rfl rfl tok31) ?_
 refine yL (ov_load rfl rfl ye trivial rfl rfl tok55) ?_
 refine zM ?_
 refine yQ (yV rfl rfl rfl Tryz.call119 (c_ref16_men p hp m hm (takenR p m) _ hL htk)) ?_
 refine LO_l rfl (by decide : 6 < 118) (ol_alloc (t := posT) rfl tok31 yf (fun b4 => ?_))
 refine LO_l rfl trivial (ol_sw0 rfl rfl rfl rfl yf tok31 ?_)
 refine LO_nil ?_
 refine W_seq ?_
 have hw2 := hp2.wf
 refine W_regl (fun w0 => ?_)
 refine yL (ov_load rfl rfl ye trivial rfl rfl tok31) ?_
 refine yL (ov_load rfl rfl ye trivial rfl rfl tok31) ?_
 refine yL (ov_load rfl rfl ye trivial rfl rfl tok55) ?_
 refine zM ?_
 refine yQ (yV rfl rfl rfl Tryz.call120 (c_ref16_pocket p hp _ hmen m hm (takenR p m) _ hL htk)) ?_
 refine LO_l rfl trivial (ol_sw0 rfl rfl rfl rfl yf tok31 ?_)
 refine LO_nil ?_
 refine W_cut [(2, ptrv b1 posT []), (3, ptrv b2 moveT []), (4, ptrv b3 posT []), (6, ptrv b4 posT []), (5, .int .i64 (takenR p m))] (.box b4 31 posT (md3 p m) :: .box b3 31 posT (zero posT) :: .box b2 55 moveT m :: .box b1 31 posT p :: M) ?_ ?_
 ·
  refine W_seq (W_reg ?_)
  refine yR (ov_fieldAddr rfl rfl fa31_0 rfl) ?_
  refine yR (ov_load rfl rfl ye ⟨trivial, yn⟩ rfl rfl tok5) ?_
  refine yR (ov_eql rfl rfl rfl) ?_
  refine yM ?_
  refine yG (fun hg => OpX.v (ov_move rfl rfl)) ?_
  refine yG (fun hg => OpX.v (ov_geq rfl (look_gv rfl (bq hg)) rfl)) ?_
  refine yR (ov_and rfl rfl rfl rfl (fun h => bq h)) ?_
  refine RO_nil ?_
  refine W_cond rfl (fun hc1 => ?_) (fun hc1 => ?_)
  ·
   refine W_seq (W_reg ?_)
   refine yR (ov_load rfl rfl ye trivial rfl rfl tok31) ?_
   refine yR (ov_fieldAddr rfl rfl fa55_1 rfl) ?_
   refine yR (ov_load rfl rfl ye ⟨trivial, yn⟩ rfl rfl tok26) ?_
   refine yR (ov_convn rfl rfl Tryz.underlying26 Tryz.underlying3 ya) ?_
   refine yP (yV rfl rfl rfl Tryz.call121 (c_ref16_Blown (md2 p m) hp2 (mT m) _ hT.1 hT.2)) ?_
   refine yA_ ?_
   refine RO_nil ?_
   refine W_seq (W_reg ?_)
   refine yA_ ?_
   refine RO_nil ?_
   refine W_block ?_
   refine W_loop (σ := Nat) (fun s5 => s5 ≤ 64) (fun s5 => [(2, ptrv b1 posT []), (3, ptrv b2 moveT []), (4, ptrv b3 posT []), (6, ptrv b4 posT []), (5, .int .i64 (takenR p m)), (7, u64v (blownR (md2 p m) (mT m))), (8, .int .i64 (s5 : Int))]) (fun s5 => .box b4 31 posT (blowTo (md2 p m) (blownR (md2 p m) (mT m)) s5) :: .box b3 31 posT (zero posT) :: .box b2 55 moveT m :: .box b1 31 posT p :: M) (fun s5 => 64 - s5) (0) (by simp) ⟨rfl, rfl, rfl, rfl, rfl, rfl, rfl, trivial⟩ yb ?_
   rintro i hI
   refine W_seq ?_
   refine W_seq (W_reg ?_)
   refine yM ?_
   refine yR (ov_lss rfl rfl rfl) ?_
   refine RO_nil ?_
   refine W_cond rfl (fun hc2 => ?_) (fun hc2 => ?_)
   ·
    try simp only [yS] at hc2
    refine W_skip ?_
    refine W_seq ?_
    refine W_block ?_
    refine W_seq (W_reg ?_)
    refine yM ?_
    refine yM ?_
    refine yP (yV rfl rfl rfl Tryz.call122 (by apply c_ref16_Has <;> exact yz)) ?_
    refine RO_nil ?_
    refine W_cond rfl (fun hc3 => ?_) (fun hc3 => ?_)
    ·
     refine W_regl (fun w0 => ?_)
     refine zM ?_
     refine yL (ov_fieldAddr rfl rfl fa31_1 rfl) ?_
     refine yL (ov_indexAddr rfl rfl rfl Tryz.underlying22 rfl Tryz.sizeOf5 ya ya) ?_
     refine LO_l rfl trivial (ol_st0 rfl rfl rfl ⟨⟨trivial, yn⟩, (tn ya ya)⟩ rfl yf tok5 ?_)
     refine LO_nil ?_
     refine W_reg ?_
     refine yM ?_
     refine yR (ov_add rfl rfl rfl ya) ?_
     refine yA_ ?_
     refine RO_nil ?_
     exact ⟨i + 1, yo, yo, ⟨rfl, rfl, rfl, rfl, rfl, rfl, rfl, trivial⟩, (by first | (rw [blow_yes (q := (md2 p m)) (b := blownR (md2 p m) (mT m)) (i := i) hc3]; exact yb) | (rw [blow_no (q := (md2 p m)) (b := blownR (md2 p m) (mT m)) (i := i) hc3]; exact yb))⟩
    ·
     refine W_skip ?_
     refine W_reg ?_
     refine yM ?_
     refine yR (ov_add rfl rfl rfl ya) ?_
     refine yA_ ?_
     refine RO_nil ?_
     exact ⟨i + 1, yo, yo, ⟨rfl, rfl, rfl, rfl, rfl, rfl, rfl, trivial⟩, (by first | (rw [blow_yes (q := (md2 p m)) (b := blownR (md2 p m) (mT m)) (i := i) hc3]; exact yb) | (rw [blow_no (q := (md2 p m)) (b := blownR (md2 p m) (mT m)) (i := i) hc3]; exact yb))⟩
   ·
    try simp only [yS] at hc2
    refine W_exit ?_
    exact ⟨⟨rfl, rfl, rfl, rfl, rfl, trivial⟩, (by first | (rw [show md3 p m = _ from (if_pos hc1).trans (congrArg (blowTo _ _) (show 64 = i by omega))]; exact yb) | (rw [show md3 p m = _ from if_neg (Bool.eq_false_iff.1 hc1)]; exact yb))⟩
  ·
   refine W_skip ?_
   exact ⟨⟨rfl, rfl, rfl, rfl, rfl, trivial⟩, (by first | (rw [show md3 p m = _ from (if_pos hc1).trans (congrArg (blowTo _ _) (show 64 = i by omega))]; exact yb) | (rw [show md3 p m = _ from if_neg (Bool.eq_false_iff.1 hc1)]; exact yb))⟩
 ·
  refine W_cut [(2, ptrv b1 posT []), (3, ptrv b2 moveT []), (4, ptrv b3 posT []), (6, ptrv b4 posT []), (5, .int .i64 (takenR p m))] (.box b4 31 posT (md4 p m) :: .box b3 31 posT (zero posT) :: .box b2 55 moveT m :: .box b1 31 posT p :: M) ?_ ?_
  ·
   have hw4 := hp4.wf
   refine W_regl (fun w0 => ?_)
   refine yL (ov_load rfl rfl ye trivial rfl rfl tok31) ?_
   refine yL (ov_load rfl rfl ye trivial rfl rfl tok31) ?_
   refine yL (ov_load rfl rfl ye trivial rfl rfl tok55) ?_
   refine zM ?_
   refine yQ (yV rfl rfl rfl Tryz.call123 (c_ref16_rights p hp (md3 p m) hp3 m hm (takenR p m) _ hL htk)) ?_
   refine LO_l rfl trivial (ol_sw0 rfl rfl rfl rfl yf tok31 ?_)
   refine LO_nil ?_
   exact ⟨⟨rfl, rfl, rfl, rfl, rfl, trivial⟩, yb⟩
  ·
   generalize md4 p m = q4 at hp4 ⊢
   have hpq := passR_rng p q4 m hL
   refine W_seq (W_regl fun w0 => ?_)
   refine yL (ov_load rfl rfl ye trivial rfl rfl tok31) ?_
   refine yL (ov_load rfl rfl ye trivial rfl rfl tok31) ?_
   refine yL (ov_load rfl rfl ye trivial rfl rfl tok55) ?_
   refine yQ (yV rfl rfl rfl Tryz.call124 (c_ref16_passing p hp q4 hp4 m hm _ hL)) ?_
   refine yL (ov_fieldAddr rfl rfl fa31_6 rfl) ?_
   refine LO_l rfl trivial (ol_st0 rfl rfl rfl ⟨trivial, yn⟩ rfl yf tok26 ?_)
   refine LO_nil ?_
   refine W_seq (W_reg ?_)
   refine yR (ov_fieldAddr rfl rfl fa55_3 rfl) ?_
   refine yR (ov_load rfl rfl ye ⟨trivial, yn⟩ rfl rfl tok5) ?_
   refine yR (ov_eql rfl rfl rfl) ?_
   refine yM ?_
   refine yG (fun hg => OpX.v (ov_fieldAddr rfl rfl fa55_3 rfl)) ?_
   refine yG (fun hg => OpX.v (ov_load rfl (look_gv rfl (bq hg)) ye ⟨trivial, yn⟩ rfl rfl tok5)) ?_
   refine yG (fun hg => OpX.v (ov_eql rfl (look_gv rfl (bq hg)) rfl)) ?_
   refine yG (fun hg => OpX.v (ov_move rfl (look_gv rfl (bq hg)))) ?_
   refine RO_g rfl rfl rfl rfl rfl yd (fun hg1 hg2 => OpX.v (ov_fieldAddr rfl rfl fa55_0 rfl)) ?_
   refine RO_g rfl rfl rfl rfl rfl yd (fun hg1 hg2 => OpX.v (ov_load rfl (look_gv rfl (bq2 hg1 hg2)) ye ⟨trivial, yn⟩ rfl rfl tok26)) ?_
   refine RO_g rfl rfl rfl rfl rfl yd (fun hg1 hg2 => OpX.v (ov_fieldAddr rfl rfl fa31_1 rfl)) ?_
   refine RO_g rfl rfl rfl rfl rfl yd (fun hg1 hg2 => OpX.v (ov_indexAddr rfl (look_gv rfl (bq2 hg1 hg2)) (look_gv rfl (bq2 hg1 hg2)) Tryz.underlying22 rfl Tryz.sizeOf5 ya ya)) ?_
   refine RO_g rfl rfl rfl rfl rfl yd (fun hg1 hg2 => OpX.v (ov_load rfl (look_gv rfl (bq2 hg1 hg2)) ye ⟨⟨trivial, yn⟩, (tn ya ya)⟩ rfl rfl tok5)) ?_
   refine RO_g rfl rfl rfl rfl rfl yd (fun hg1 hg2 => yV rfl rfl (looks_cons (look_gv rfl (bq2 hg1 hg2)) looks_nil) Tryz.call84 xaqy) ?_
   refine RO_g rfl rfl rfl rfl rfl yd (fun hg1 hg2 => OpX.v (ov_eql rfl (look_gv rfl (bq2 hg1 hg2)) rfl)) ?_
   refine yG (fun hg => OpX.v (ov_and rfl (look_gv rfl (bq hg)) rfl rfl (fun h => bq2 (bq hg) h))) ?_
   refine yR (ov_or rfl rfl rfl rfl (fun h => bq h)) ?_
   refine yA_ ?_
   refine RO_nil ?_
   refine W_seq (W_regl fun w0 => ?_)
   refine yL (ov_fieldAddr rfl rfl fa31_8 rfl) ?_
   refine yL (ov_load rfl rfl ye ⟨trivial, yn⟩ rfl rfl tok3) ?_
   refine yQ (yV rfl rfl rfl Tryz.call125 (c_ref16_more (hf p) _ hhf.1)) ?_
   refine yL (ov_fieldAddr rfl rfl fa31_8 rfl) ?_
   refine LO_l rfl trivial (ol_st0 rfl rfl rfl ⟨trivial, yn⟩ rfl yf tok3 ?_)
   refine LO_nil ?_
   refine W_cut [(2, ptrv b1 posT []), (4, ptrv b3 posT []), (6, ptrv b4 posT [])] (.box b4 31 posT (md7 p m q4) :: .box b3 31 posT (zero posT) :: .box b2 55 moveT m :: .box b1 31 posT p :: M) ?_ ?_
   ·
    refine W_seq (W_reg ?_)
    refine yM ?_
    refine yM ?_
    refine yG (fun hg => OpX.v (ov_move rfl rfl)) ?_
    refine yG (fun hg => OpX.v (ov_geq rfl (look_gv rfl (bq hg)) rfl)) ?_
    refine yR (ov_or rfl rfl rfl rfl (fun h => bq h)) ?_
    refine RO_nil ?_
    refine W_cond rfl (fun hc4 => ?_) (fun hc4 => ?_)
    ·
     refine W_regl (fun w0 => ?_)
     refine yL (ov_fieldAddr rfl rfl fa31_8 rfl) ?_
     refine LO_l rfl trivial (ol_st0 rfl rfl rfl ⟨trivial, yn⟩ rfl yf tok3 ?_)
     refine LO_nil ?_
     exact ⟨⟨rfl, rfl, rfl, trivial⟩, (by first | (rw [show md7 p m q4 = _ from if_pos hc4]; exact yb) | (rw [show md7 p m q4 = _ from if_neg (Bool.eq_false_iff.1 hc4)]; exact yb))⟩
    ·
     refine W_skip ?_
     exact ⟨⟨rfl, rfl, rfl, trivial⟩, (by first | (rw [show md7 p m q4 = _ from if_pos hc4]; exact yb) | (rw [show md7 p m q4 = _ from if_neg (Bool.eq_false_iff.1 hc4)]; exact yb))⟩
   ·
    have hp8 := POK_md8 hp hL hp4
    refine W_cut [(2, ptrv b1 posT []), (4, ptrv b3 posT []), (6, ptrv b4 posT [])] (.box b4 31 posT (md8 p m q4) :: .box b3 31 posT (zero posT) :: .box b2 55 moveT m :: .box b1 31 posT p :: M) ?_ ?_
    ·
     refine W_seq (W_reg ?_)
     refine yR (ov_fieldAddr rfl rfl fa31_4 rfl) ?_
     refine yR (ov_load rfl rfl ye ⟨trivial, yn⟩ rfl rfl tok5) ?_
     refine yR (ov_eql rfl rfl rfl) ?_
     refine RO_nil ?_
     refine W_cond rfl (fun hc5 => ?_) (fun hc5 => ?_)
     ·
      refine W_regl (fun w0 => ?_)
      refine yL (ov_fieldAddr rfl rfl fa31_9 rfl) ?_
      refine yL (ov_load rfl rfl ye ⟨trivial, yn⟩ rfl rfl tok3) ?_
      refine yQ (yV rfl rfl rfl Tryz.call125 (c_ref16_more (fl p) _ hfl.1)) ?_
      refine yL (ov_fieldAddr rfl rfl fa31_9 rfl) ?_
      refine LO_l rfl trivial (ol_st0 rfl rfl rfl ⟨trivial, yn⟩ rfl yf tok3 ?_)
      refine LO_nil ?_
      exact ⟨⟨rfl, rfl, rfl, trivial⟩, (by first | (rw [show md8 p m q4 = _ from if_pos hc5]; exact yb) | (rw [show md8 p m q4 = _ from if_neg (Bool.eq_false_iff.1 hc5)]; exact yb))⟩
     ·
      refine W_skip ?_
      exact ⟨⟨rfl, rfl, rfl, trivial⟩, (by first | (rw [show md8 p m q4 = _ from if_pos hc5]; exact yb) | (rw [show md8 p m q4 = _ from if_neg (Bool.eq_false_iff.1 hc5)]; exact yb))⟩
    ·
     refine W_cut [(2, ptrv b1 posT []), (4, ptrv b3 posT []), (6, ptrv b4 posT [])] (.box b4 31 posT (md9 p m q4) :: .box b3 31 posT (zero posT) :: .box b2 55 moveT m :: .box b1 31 posT p :: M) ?_ ?_
     ·
      refine W_regl (fun w0 => ?_)
      refine yL (ov_fieldAddr rfl rfl fa31_4 rfl) ?_
      refine yL (ov_load rfl rfl ye ⟨trivial, yn⟩ rfl rfl tok5) ?_
      refine yL (ov_sub rfl rfl rfl ya) ?_
      refine yL (ov_fieldAddr rfl rfl fa31_4 rfl) ?_
      refine LO_l rfl trivial (ol_st0 rfl rfl rfl ⟨trivial, yn⟩ rfl yf tok5 ?_)
      refine LO_nil ?_
      exact ⟨⟨rfl, rfl, rfl, trivial⟩, yb⟩
     ·
      have hp9 := POK_md9 hp hL hp4
      have htu9 : tu (md9 p m q4) = 1 - tu p := rfl
      generalize md9 p m q4 = q9 at hp9 htu9 ⊢
      have htu90 := htu9
      simp only [tu] at htu90
      have hck := ckAt_rng hp9 (tu p)
      have hck0 := hck
      simp only [ckAt, ck, tu] at hck0
      refine W_cut [(4, ptrv b3 posT []), (6, ptrv b4 posT [])] (.box b4 31 posT (mdE p q9) :: .box b3 31 posT (zero posT) :: .box b2 55 moveT m :: .box b1 31 posT p :: M) ?_ ?_
      ·
       refine W_seq (W_reg ?_)
       refine yR (ov_fieldAddr rfl rfl fa31_0 rfl) ?_
       refine yR (ov_load rfl rfl ye ⟨trivial, yn⟩ rfl rfl tok5) ?_
       refine yR (ov_eql rfl rfl rfl) ?_
       refine yM ?_
       refine yG (fun hg => OpX.v (ov_fieldAddr rfl rfl fa31_4 rfl)) ?_
       refine yG (fun hg => OpX.v (ov_load rfl (look_gv rfl (bq hg)) ye ⟨trivial, yn⟩ rfl rfl tok5)) ?_
       refine yG (fun hg => OpX.v (ov_fieldAddr rfl rfl fa31_7 rfl)) ?_
       refine yG (fun hg => OpX.v (ov_indexAddr rfl (look_gv rfl (bq hg)) (look_gv rfl (bq hg)) Tryz.underlying29 rfl Tryz.sizeOf5 ya ya)) ?_
       refine yG (fun hg => OpX.v (ov_load rfl (look_gv rfl (bq hg)) ye ⟨⟨trivial, yn⟩, (tn ya ya)⟩ rfl rfl tok5)) ?_
       refine yG (fun hg => OpX.v (ov_lss rfl (look_gv rfl (bq hg)) rfl)) ?_
       refine yR (ov_and rfl rfl rfl rfl (fun h => bq h)) ?_
       refine yM ?_
       refine yG (fun hg => OpX.v (ov_load rfl rfl ye trivial rfl rfl tok31)) ?_
       refine yG (fun hg => OpX.v (ov_fieldAddr rfl rfl fa31_4 rfl)) ?_
       refine yG (fun hg => OpX.v (ov_load rfl (look_gv rfl (bq hg)) ye ⟨trivial, yn⟩ rfl rfl tok5)) ?_
       refine yG (fun hg => yV rfl rfl (looks_cons (look_gv rfl (bq hg)) (looks_cons (look_gv rfl (bq hg)) looks_nil)) Tryz.call58 (c_ref08_Check q9 hp9 (tu q9) _ yo yo)) ?_
       refine yR (ov_and rfl rfl rfl rfl (fun h => bq h)) ?_
       refine RO_nil ?_
       refine W_cond rfl (fun hc6 => ?_) (fun hc6 => ?_)
       ·
        have hck3 : ckAt q9 (tu p) < 3 := of_decide_eq_true (Bool.and_eq_true_iff.1 (Bool.and_eq_true_iff.1 hc6).1).2
        have hck4 := hck3
        simp only [ckAt, ck, tu] at hck4
        refine W_regl (fun w0 => ?_)
        refine yL (ov_fieldAddr rfl rfl fa31_4 rfl) ?_
        refine yL (ov_load rfl rfl ye ⟨trivial, yn⟩ rfl rfl tok5) ?_
        refine yL (ov_fieldAddr rfl rfl fa31_7 rfl) ?_
        refine yL (ov_indexAddr rfl rfl rfl Tryz.underlying29 rfl Tryz.sizeOf5 ya ya) ?_
        refine yL (ov_load rfl rfl ye ⟨⟨trivial, yn⟩, (tn ya ya)⟩ rfl rfl tok5) ?_
        refine yL (ov_add rfl rfl rfl ya) ?_
        refine yL (ov_fieldAddr rfl rfl fa31_7 rfl) ?_
        refine yL (ov_indexAddr rfl rfl rfl Tryz.underlying29 rfl Tryz.sizeOf5 ya ya) ?_
        refine LO_l rfl trivial (ol_st0 rfl rfl rfl ⟨⟨trivial, yn⟩, (tn ya ya)⟩ rfl yf tok5 ?_)
        refine LO_nil ?_
        exact ⟨⟨rfl, rfl, trivial⟩, (by first | (rw [show mdE p q9 = _ from if_pos hc6]; exact yb) | (rw [show mdE p q9 = _ from if_neg (Bool.eq_false_iff.1 hc6)]; exact yb))⟩
       ·
        refine W_skip ?_
        exact ⟨⟨rfl, rfl, trivial⟩, (by first | (rw [show mdE p q9 = _ from if_pos hc6]; exact yb) | (rw [show mdE p q9 = _ from if_neg (Bool.eq_false_iff.1 hc6)]; exact yb))⟩
      ·
       refine W_seq ?_
       have hwM := (POK_mdE hp hL hp9).wf
       refine W_regl (fun w0 => ?_)
       refine yL (ov_load rfl rfl ye trivial rfl rfl tok31) ?_
       refine LO_l rfl trivial (ol_sw1 rfl rfl rfl rfl yf tok31 ?_)
       refine LO_nil ?_
       refine W_ret ?_
       refine ⟨trivial, yb, (ResV_cell rfl rfl ye rfl tok31 ?_)⟩
       rfl
end Go.Kw
