/- A part of the proof: KwR17, KwR19, KwR22, KwQ4, KwQ5, KwQ6, KwQ7, KwQ8. -/
import Derived.Test.YtpakilamdannfaaGreatDoorKh
set_option linter.all false
set_option linter.unusedVariables false
set_option linter.unusedSimpArgs false
set_option linter.unusedSectionVars false
set_option maxRecDepth 20000
set_option linter.unusedVariables false
set_option linter.unusedSimpArgs false
namespace Go.Kw
open Go.Proofs


def menX (p : Pos) (c : Int) : Bool := !okTo (fun j : Nat => ownR p (j : Int) c) 64
def lastT (p q : Pos) : Bool := !decide (vr p = 8) || !refCheck q (1 - tu p)
def leavesR (p q : Pos) : Bool :=
  if refRoyal (vr p) (tu p) = true then
    (if (decide (find q (tu p) 6 < 0) || (!(decide (vr p = 3) && decide (find q (1 - tu p) 6 < 0)) && refCheck q (tu p))) = true then false else lastT p q)
  else lastT p q
def wlF (p : Pos) (m : Mv) : Bool := leavesR p (madeR p m)
def wtF (p : Pos) (m : Mv) : Bool := decide (vr p = 4) && decide (0 ≤ takenR p m)
def wdL (p : Pos) (i : Nat) : List Mv := ((allR p).take i).filter (wlF p)
def wdT (p : Pos) (i : Nat) : List Mv := ((allR p).take i).filter fun m => wlF p m && wtF p m
theorem fil_next (l : List Mv) (f : Mv → Bool) {i : Nat} (h : i < l.length) : (l.take (i + 1)).filter f = (l.take i).filter f ++ (if f (l.getD ((i : Nat) : Int).toNat (zero moveT)) = true then [l.getD ((i : Nat) : Int).toNat (zero moveT)] else []) := by
  have e : l.getD ((i : Nat) : Int).toNat (zero moveT) = l[i] := by
    show l.getD i (zero moveT) = l[i]
    rw [List.getD_eq_getElem?_getD, List.getElem?_eq_getElem h]; rfl
  rw [e, List.take_add_one, List.getElem?_eq_getElem h, List.filter_append]
  congr 1
  show List.filter f [l[i]] = _
  rw [List.filter_cons]; rfl
section
variable (p : Pos) (i : Nat)
abbrev alI : Mv := (allR p).getD ((i : Nat) : Int).toNat (zero moveT)
theorem wdL_no (h : (!leavesR p (madeR p (alI p i))) = true) (hi : i < (allR p).length) : wdL p (i + 1) = wdL p i := by
  unfold wdL; rw [fil_next _ _ hi, if_neg, List.append_nil]
  show ¬ leavesR p (madeR p (alI p i)) = true
  simpa using h
theorem wdT_no (h : (!leavesR p (madeR p (alI p i))) = true) (hi : i < (allR p).length) : wdT p (i + 1) = wdT p i := by
  unfold wdT; rw [fil_next _ _ hi, if_neg, List.append_nil]
  show ¬ (leavesR p (madeR p (alI p i)) && wtF p (alI p i)) = true
  have : leavesR p (madeR p (alI p i)) = false := by simpa using h
  rw [this]; simp
theorem wdL_yes (h : (!leavesR p (madeR p (alI p i))) = false) (hi : i < (allR p).length) : wdL p (i + 1) = wdL p i ++ [alI p i] := by
  unfold wdL; rw [fil_next _ _ hi, if_pos]
  show leavesR p (madeR p (alI p i)) = true
  simpa using h
theorem wdT_yes (h : (!leavesR p (madeR p (alI p i))) = false) (h2 : wtF p (alI p i) = true) (hi : i < (allR p).length) : wdT p (i + 1) = wdT p i ++ [alI p i] := by
  unfold wdT; rw [fil_next _ _ hi, if_pos]
  show (leavesR p (madeR p (alI p i)) && wtF p (alI p i)) = true
  have : leavesR p (madeR p (alI p i)) = true := by simpa using h
  rw [this, h2]; rfl
theorem wdT_no2 (h : (!leavesR p (madeR p (alI p i))) = false) (h2 : wtF p (alI p i) = false) (hi : i < (allR p).length) : wdT p (i + 1) = wdT p i := by
  unfold wdT; rw [fil_next _ _ hi, if_neg, List.append_nil]
  show ¬ (leavesR p (madeR p (alI p i)) && wtF p (alI p i)) = true
  rw [h2]; simp
end
theorem allR_len (p : Pos) : (allR p).length ≤ 20900 := by
  have h3 := list13_len p
  have h4 := list14_len p
  have h5 := list15_len p
  unfold allR; rw [List.length_append, List.length_append]; omega
theorem wdL_len (p : Pos) (i : Nat) : (wdL p i).length ≤ 20900 :=
  Nat.le_trans (List.length_filter_le _ _) (Nat.le_trans (List.length_take_le' _ _) (allR_len p))
theorem wdT_len (p : Pos) (i : Nat) : (wdT p i).length ≤ 20900 :=
  Nat.le_trans (List.length_filter_le _ _) (Nat.le_trans (List.length_take_le' _ _) (allR_len p))
def wouldR (p : Pos) : List Mv :=
  if (!thereR p || (refRoyal (vr p) (tu p) && decide (find p (tu p) 6 < 0))) = true then []
  else if (decide (vr p = 4) && decide (0 < ((wdT p (allR p).length).length : Int))) = true then wdT p (allR p).length else wdL p (allR p).length
theorem wouldR_len (p : Pos) : (wouldR p).length ≤ 20900 := by
  unfold wouldR; split
  · exact Nat.zero_le _
  · split
    · exact wdT_len p _
    · exact wdL_len p _
theorem wouldR_mem {p : Pos} {m : Mv} (h : m ∈ wouldR p) : m ∈ allR p := by
  unfold wouldR at h; split at h
  · cases h
  · split at h
    · exact List.mem_of_mem_take (List.mem_filter.1 h).1
    · exact List.mem_of_mem_take (List.mem_filter.1 h).1
theorem mvsR_ok {p : Pos} (ht : tu p ≤ 1) {a b : Nat} (ha : a < 64) (hb : b < 64) {m : Mv} (h : m ∈ mvsR p (a : Int) (b : Int)) : mF m = a ∧ mT m = b ∧ mD m = 0 ∧ mC m = false ∧ 0 ≤ mP m ∧ mP m ≤ 7 := by
  unfold mvsR at h
  split at h
  · split at h
    · rw [List.mem_singleton] at h; subst h; exact ⟨rfl, rfl, rfl, rfl, by show (0 : Int) ≤ 0; decide, by show (0 : Int) ≤ 7; decide⟩
    · obtain ⟨x, hx, rfl⟩ := List.mem_map.1 h
      refine ⟨rfl, rfl, rfl, rfl, ?_⟩
      have : 0 ≤ x ∧ x ≤ 7 := by
        unfold promP at hx
        split at hx
        · simp only [List.mem_cons, List.mem_nil_iff, or_false] at hx; omega
        · split at hx
          · simp only [List.mem_cons, List.mem_nil_iff, or_false] at hx; omega
          · cases hx
      exact this
  · cases h
theorem list13_ok {p : Pos} {m : Mv} (h : m ∈ list13 p) : tu p ≤ 1 ∧ (0 ≤ mF m ∧ mF m < 64) ∧ (0 ≤ mT m ∧ mT m < 64) ∧ mD m = 0 ∧ mC m = false ∧ 0 ≤ mP m ∧ mP m ≤ 7 := by
  unfold list13 at h
  split at h
  · cases h
  · rename_i hn
    have ht := there_tu (Bool.eq_false_iff.2 hn)
    unfold listI at h
    obtain ⟨a, ha, h⟩ := List.mem_flatMap.1 h
    obtain ⟨b, hb, h⟩ := List.mem_flatMap.1 h
    have ha := List.mem_range.1 ha
    have hb := List.mem_range.1 hb
    have := mvsR_ok ht ha hb h
    exact ⟨ht, by omega, by omega, this.2.2⟩
theorem list14_ok {p : Pos} (hp : POK p) {m : Mv} (h : m ∈ list14 p) : tu p ≤ 1 ∧ (0 ≤ mF m ∧ mF m < 64) ∧ (0 ≤ mT m ∧ mT m < 64) ∧ mD m = 0 ∧ mC m = true ∧ mP m = 0 := by
  have key : ∀ n : Nat, m ∈ (if (mayC p (1 - (n : Int))).2.2 = true then [castM (mayC p (1 - (n : Int)))] else []) → tu p ≤ 1 ∧ (0 ≤ mF m ∧ mF m < 64) ∧ (0 ≤ mT m ∧ mT m < 64) ∧ mD m = 0 ∧ mC m = true ∧ mP m = 0 := fun n h => by
    split at h
    · rename_i hc
      rw [List.mem_singleton] at h; subst h
      have hr := mayC_rng hp (1 - (n : Int))
      refine ⟨?_, hr.1, hr.2, rfl, rfl, rfl⟩
      unfold mayC at hc
      split at hc
      · cases hc
      · rename_i h1
        exact Int.not_lt.1 (of_decide_eq_false (Bool.or_eq_false_iff.1 (Bool.eq_false_iff.2 h1)).1)
    · cases h
  rcases List.mem_append.1 (show m ∈ ([] ++ _) ++ _ from h) with h | h
  · rcases List.mem_append.1 h with h | h
    · cases h
    · exact key 0 h
  · exact key 1 h
theorem list15_ok {p : Pos} {m : Mv} (h : m ∈ list15 p) : tu p ≤ 1 ∧ (0 ≤ mF m ∧ mF m < 64) ∧ (0 ≤ mT m ∧ mT m < 64) ∧ (1 ≤ mD m ∧ mD m ≤ 5 ∧ 1 ≤ pkAt p (tu p) (mD m)) ∧ mC m = false ∧ mP m = 0 := by
  unfold list15 at h
  split at h
  · cases h
  · rename_i hn
    have ht : tu p ≤ 1 := Int.not_lt.1 (of_decide_eq_false (Bool.or_eq_false_iff.1 (Bool.eq_false_iff.2 hn)).1)
    obtain ⟨k, hk, h⟩ := List.mem_flatMap.1 h
    have hk := List.mem_range.1 hk
    unfold dKind at h
    split at h
    · rename_i hpk
      obtain ⟨s, hs, h⟩ := List.mem_flatMap.1 h
      have hs := List.mem_range.1 hs
      unfold dOne at h
      split at h
      · cases h
      · rw [List.mem_singleton] at h; subst h
        exact ⟨ht, ⟨by show (0 : Int) ≤ (s : Int); omega, by show (s : Int) < 64; omega⟩, ⟨by show (0 : Int) ≤ (s : Int); omega, by show (s : Int) < 64; omega⟩, ⟨by show (1 : Int) ≤ (k : Int) + 1; omega, by show (k : Int) + 1 ≤ 5; omega, by show 1 ≤ pkAt p (tu p) ((k : Int) + 1); omega⟩, rfl, rfl⟩
    · cases h
theorem allR_mem {p : Pos} (hp : POK p) {m : Mv} (h : m ∈ allR p) : MOK m ∧ LMv p m := by
  rcases List.mem_append.1 h with h | h
  · rcases List.mem_append.1 h with h | h
    · obtain ⟨h1, h2, h3, h4, h5, h6⟩ := list13_ok h
      exact ⟨⟨by omega, by omega, by omega, by omega⟩, h1, h2, h3, h6, fun e => absurd h4 e⟩
    · obtain ⟨h1, h2, h3, h4, h5, h6⟩ := list14_ok hp h
      exact ⟨⟨by omega, by omega, by omega, by omega⟩, h1, h2, h3, by omega, fun e => absurd h4 e⟩
  · obtain ⟨h1, h2, h3, h4, h5, h6⟩ := list15_ok h
    exact ⟨⟨by omega, by omega, by omega, by omega⟩, h1, h2, h3, by omega, fun _ => ⟨⟨h4.1, h4.2.1⟩, h4.2.2⟩⟩
theorem allR_ok {p : Pos} (hp : POK p) {i : Nat} (h : i < (allR p).length) : MOK (alI p i) ∧ LMv p (alI p i) := by
  refine allR_mem hp ?_
  show (allR p).getD i (zero moveT) ∈ allR p
  rw [List.getD_eq_getElem?_getD, List.getElem?_eq_getElem h]; exact List.getElem_mem h
def winR (c w : Int) : Res := if decide (c = 0) = true then ((1 : Int), w, ()) else ((2 : Int), w, ())
def hillR (s : Int) : Bool := ((decide (s = 27) || decide (s = 28)) || decide (s = 35)) || decide (s = 36)
abbrev wrI (p : Pos) (i : Nat) : Mv := (wouldR p).getD ((i : Nat) : Int).toNat (zero moveT)
theorem would_rng {p : Pos} (hp : POK p) {i : Nat} (h : i < (wouldR p).length) : (0 ≤ mF (wrI p i) ∧ mF (wrI p i) < 64) ∧ (0 ≤ mT (wrI p i) ∧ mT (wrI p i) < 64) := by
  have hm : wrI p i ∈ wouldR p := by
    show (wouldR p).getD i (zero moveT) ∈ wouldR p
    rw [List.getD_eq_getElem?_getD, List.getElem?_eq_getElem h]; exact List.getElem_mem h
  have := (allR_mem hp (wouldR_mem hm)).2
  exact ⟨this.f, this.to⟩
def racF (p : Pos) (i : Nat) : Bool := decide (mF (wrI p i) = find p 1 6) && decide (55 < mT (wrI p i))
def racR (p : Pos) : Res :=
  if (decide (55 < find p 0 6) && decide (55 < find p 1 6)) = true then ((3 : Int), (6 : Int), ())
  else if decide (55 < find p 1 6) = true then winR 1 6
  else if (!decide (55 < find p 0 6)) = true then zero resT
  else if (decide (tu p = 1) && !okTo (racF p) (wouldR p).length) = true then zero resT else winR 0 6
theorem rac_yes {p : Pos} {i : Nat} (h : i < (wouldR p).length) (h2 : racF p i = true) (h3 : decide (tu p = 1) = true) : (decide (tu p = 1) && !okTo (racF p) (wouldR p).length) = true := by
  rw [h3, okTo_no h2 h]; rfl
theorem rac_no {p : Pos} {i : Nat} (h : i ≤ (wouldR p).length) (h2 : okTo (racF p) i = true) (h3 : 0 < i → decide (tu p = 1) = true) (h4 : (decide (((i : Nat) : Int) < ((wouldR p).length : Int)) && decide (tu p = 1)) = false) : (decide (tu p = 1) && !okTo (racF p) (wouldR p).length) = false := by
  cases e : decide (tu p = 1) with
  | false => rfl
  | true =>
    rw [e, Bool.and_true] at h4
    have := of_decide_eq_false h4
    rw [show (wouldR p).length = i by omega, h2]; rfl
def wonR (p : Pos) : Res :=
  if (!thereR p) = true then zero resT
  else if decide (vr p = 3) = true then (if decide (find p (tu p) 6 < 0) = true then winR (1 - tu p) 6 else zero resT)
  else if decide (vr p = 5) = true then (if decide (3 ≤ ckAt p (1 - tu p)) = true then winR (1 - tu p) 7 else if decide (3 ≤ ckAt p (tu p)) = true then winR (tu p) 7 else zero resT)
  else if decide (vr p = 6) = true then (if hillR (find p (1 - tu p) 6) = true then winR (1 - tu p) 6 else if hillR (find p (tu p) 6) = true then winR (tu p) 6 else zero resT)
  else if decide (vr p = 7) = true then (if (!menX p 0) = true then winR 1 8 else zero resT)
  else if decide (vr p = 4) = true then (if (!menX p (tu p)) = true then winR (tu p) 8 else if (!menX p (1 - tu p)) = true then winR (1 - tu p) 8 else zero resT)
  else if decide (vr p = 8) = true then racR p else zero resT
def list17 (p : Pos) : List Mv := if (!decide ((wonR p).1 = 0)) = true then [] else wouldR p

theorem c_ref17_King (p : Pos) (hp : POK p) (c : Int) (M : List Fact) : Pure Tryz.prog 91 [enc posT p, .int .u8 c] M (.int .i64 (find p c 6)) := by
 have hb := hp.board
 have hpw := hp.wf
 have hvr := hp.vr
 have htu := hp.tu
 have hpg := hp.pg
 have hvr0 := hp.vr
 have htu0 := hp.tu
 simp only [vr] at hvr0
 simp only [tu] at htu0
 refine pure_of_W (n := 8) Tryz.func91 rfl rfl yn ?_
 refine W_seq (W_regl fun w0 => ?_)
 refine LO_l rfl (by decide : 2 < 8) (ol_box (t := posT) rfl rfl rfl yf (fun b1 => ?_))
 refine zA ?_
 refine LO_nil ?_
 refine W_seq (W_reg ?_)
 refine yR (ov_load rfl rfl ye trivial rfl rfl tok31) ?_
 refine yM ?_
 refine yP (yV rfl rfl rfl Tryz.call88 (by apply c_ref08_Find <;> exact yz)) ?_
 refine yA_ ?_
 refine RO_nil ?_
 refine W_ret ?_
 refine ⟨trivial, yb, (ResV_tmp1 rfl rfl ?_)⟩
 rfl

theorem c_ref17_Men (p : Pos) (hp : POK p) (c : Int) (M : List Fact) : Pure Tryz.prog 94 [enc posT p, .int .u8 c] M (.bool (menX p c)) := by
 have hb := hp.board
 have hpw := hp.wf
 have hvr := hp.vr
 have htu := hp.tu
 have hpg := hp.pg
 have hvr0 := hp.vr
 have htu0 := hp.tu
 simp only [vr] at hvr0
 simp only [tu] at htu0
 refine pure_of_W (n := 14) Tryz.func94 rfl rfl yn ?_
 refine W_seq (W_regl fun w0 => ?_)
 refine LO_l rfl (by decide : 2 < 14) (ol_box (t := posT) rfl rfl rfl yf (fun b1 => ?_))
 refine zA ?_
 refine LO_nil ?_
 refine W_seq ?_
 refine W_seq (W_reg ?_)
 refine yA_ ?_
 refine RO_nil ?_
 refine W_block ?_
 refine W_loop (σ := Nat) (fun i => i ≤ 64 ∧ okTo (fun j : Nat => ownR p (j : Int) c) i = true) (fun i => [(1, .int .u8 c), (2, ptrv b1 posT []), (5, .int .i64 (i : Int))]) (fun i => .box b1 31 posT _ :: M) (fun i => 64 - i) (0) ⟨by omega, rfl⟩ ⟨rfl, rfl, rfl, trivial⟩ yb ?_
 rintro i ⟨hI, hN⟩
 refine W_seq ?_
 refine W_seq (W_reg ?_)
 refine yM ?_
 refine yR (ov_lss rfl rfl rfl) ?_
 refine RO_nil ?_
 refine W_cond rfl (fun hc1 => ?_) (fun hc1 => ?_)
 ·
  try simp only [yS] at hc1
  refine W_skip ?_
  refine W_seq ?_
  refine W_block ?_
  refine W_seq (W_reg ?_)
  refine yR (ov_load rfl rfl ye trivial rfl rfl tok31) ?_
  refine yM ?_
  refine yM ?_
  refine yP (yV rfl rfl rfl Tryz.call153 (by apply c_ref13_Own <;> exact yz)) ?_
  refine RO_nil ?_
  refine W_cond rfl (fun hc2 => ?_) (fun hc2 => ?_)
  ·
   refine W_seq (W_reg ?_)
   refine yA_ ?_
   refine RO_nil ?_
   refine W_ret ?_
   refine ⟨trivial, yb, (ResV_tmp1 rfl rfl ?_)⟩
   first | exact val_bool (by unfold menX; rw [okTo_no (f := fun j : Nat => ownR p (j : Int) c) hc2 (by omega : i < 64)]; rfl) | exact val_bool (by unfold menX; rw [show 64 = i by omega, hN]; rfl)
  ·
   refine W_skip ?_
   refine W_reg ?_
   refine yM ?_
   refine yR (ov_add rfl rfl rfl ya) ?_
   refine yA_ ?_
   refine RO_nil ?_
   exact ⟨i + 1, yo, ⟨by omega, okTo_next hN hc2⟩, ⟨rfl, rfl, rfl, trivial⟩, yb⟩
 ·
  try simp only [yS] at hc1
  refine W_exit ?_
  refine W_seq (W_reg ?_)
  refine yA_ ?_
  refine RO_nil ?_
  refine W_ret ?_
  refine ⟨trivial, yb, (ResV_tmp1 rfl rfl ?_)⟩
  first | exact val_bool (by unfold menX; rw [okTo_no (f := fun j : Nat => ownR p (j : Int) c) hc2 (by omega : i < 64)]; rfl) | exact val_bool (by unfold menX; rw [show 64 = i by omega, hN]; rfl)

theorem c_ref17_leaves (p : Pos) (hp : POK p) (q : Pos) (hq : POK q) (M : List Fact) (ht : tu p ≤ 1) : Pure Tryz.prog 97 [enc posT p, enc posT q] M (.bool (leavesR p q)) := by
 have hb := hp.board
 have hpw := hp.wf
 have hvr := hp.vr
 have htu := hp.tu
 have hpg := hp.pg
 have hvr0 := hp.vr
 have htu0 := hp.tu
 simp only [vr] at hvr0
 simp only [tu] at htu0
 have ht2 := ht
 simp only [tu] at ht2
 have hqw := hq.wf
 refine pure_of_W (n := 48) Tryz.func97 rfl rfl yn ?_
 refine W_seq (W_regl fun w0 => ?_)
 refine LO_l rfl (by decide : 2 < 48) (ol_box (t := posT) rfl rfl rfl yf (fun b1 => ?_))
 refine LO_l rfl (by decide : 3 < 48) (ol_box (t := posT) rfl rfl rfl yf (fun b2 => ?_))
 refine zA ?_
 refine LO_nil ?_
 refine W_seq ?_
 refine W_regd mixed yk ?_
 refine yR (ov_fieldAddr rfl rfl fa31_4 rfl) ?_
 refine yR (ov_load rfl rfl ye ⟨trivial, yn⟩ rfl rfl tok5) ?_
 refine yR (ov_fieldAddr rfl rfl fa31_4 rfl) ?_
 refine yR (ov_load rfl rfl ye ⟨trivial, yn⟩ rfl rfl tok5) ?_
 refine yR (ov_sub rfl rfl rfl ya) ?_
 refine yA_ ?_
 refine yA_ ?_
 refine RO_nil ?_
 refine W_seq ?_
 refine W_seq (W_reg ?_)
 refine yR (ov_fieldAddr rfl rfl fa31_0 rfl) ?_
 refine yR (ov_load rfl rfl ye ⟨trivial, yn⟩ rfl rfl tok5) ?_
 refine yM ?_
 refine yP (yV rfl rfl rfl Tryz.call96 (by apply c_ref07_Royal <;> exact yz)) ?_
 refine RO_nil ?_
 refine W_cond rfl (fun hc1 => ?_) (fun hc1 => ?_)
 ·
  refine W_seq (W_reg ?_)
  refine yR (ov_fieldAddr rfl rfl fa31_0 rfl) ?_
  refine yR (ov_load rfl rfl ye ⟨trivial, yn⟩ rfl rfl tok5) ?_
  refine yR (ov_eql rfl rfl rfl) ?_
  refine yM ?_
  refine yG (fun hg => OpX.v (ov_load rfl rfl ye trivial rfl rfl tok31)) ?_
  refine yG (fun hg => OpX.v (ov_move rfl rfl)) ?_
  refine yG (fun hg => yV rfl rfl (looks_cons (look_gv rfl (bq hg)) (looks_cons (look_gv rfl (bq hg)) looks_nil)) Tryz.call91 (c_ref17_King q hq (1 - tu p) _)) ?_
  refine yG (fun hg => OpX.v (ov_lss rfl (look_gv rfl (bq hg)) rfl)) ?_
  refine yR (ov_and rfl rfl rfl rfl (fun h => bq h)) ?_
  refine yA_ ?_
  refine RO_nil ?_
  refine W_seq (W_reg ?_)
  refine yR (ov_load rfl rfl ye trivial rfl rfl tok31) ?_
  refine yM ?_
  refine yP (yV rfl rfl rfl Tryz.call91 (c_ref17_King q hq (tu p) _)) ?_
  refine yR (ov_lss rfl rfl rfl) ?_
  refine yM ?_
  refine yG (fun hg => OpX.v (ov_move rfl rfl)) ?_
  refine yG (fun hg => OpX.v (ov_not rfl (look_gv rfl (bq hg)))) ?_
  refine yG (fun hg => OpX.v (ov_move rfl (look_gv rfl (bq hg)))) ?_
  refine RO_g rfl rfl rfl rfl rfl yd (fun hg1 hg2 => OpX.v (ov_load rfl rfl ye trivial rfl rfl tok31)) ?_
  refine RO_g rfl rfl rfl rfl rfl yd (fun hg1 hg2 => OpX.v (ov_move rfl rfl)) ?_
  refine RO_g rfl rfl rfl rfl rfl yd (fun hg1 hg2 => yV rfl rfl (looks_cons (look_gv rfl (bq2 hg1 hg2)) (looks_cons (look_gv rfl (bq2 hg1 hg2)) looks_nil)) Tryz.call58 (c_ref08_Check q hq (tu p) _ yo yo)) ?_
  refine yG (fun hg => OpX.v (ov_and rfl (look_gv rfl (bq hg)) rfl rfl (fun h => bq2 (bq hg) h))) ?_
  refine yR (ov_or rfl rfl rfl rfl (fun h => bq h)) ?_
  refine RO_nil ?_
  refine W_cond rfl (fun hc2 => ?_) (fun hc2 => ?_)
  ·
   refine W_seq (W_reg ?_)
   refine yA_ ?_
   refine RO_nil ?_
   refine W_ret ?_
   refine ⟨trivial, yb, (ResV_tmp1 rfl rfl ?_)⟩
   exact xbyy
  ·
   refine W_skip ?_
   refine W_seq (W_reg ?_)
   refine yR (ov_fieldAddr rfl rfl fa31_0 rfl) ?_
   refine yR (ov_load rfl rfl ye ⟨trivial, yn⟩ rfl rfl tok5) ?_
   refine yR (ov_neq rfl rfl rfl) ?_
   refine yM ?_
   refine yG (fun hg => OpX.v (ov_load rfl rfl ye trivial rfl rfl tok31)) ?_
   refine yG (fun hg => OpX.v (ov_move rfl rfl)) ?_
   refine yG (fun hg => yV rfl rfl (looks_cons (look_gv rfl (bq hg)) (looks_cons (look_gv rfl (bq hg)) looks_nil)) Tryz.call58 (c_ref08_Check q hq (1 - tu p) _ yo yo)) ?_
   refine yG (fun hg => OpX.v (ov_not rfl (look_gv rfl (bq hg)))) ?_
   refine yR (ov_or rfl rfl rfl rfl (fun h => bq h)) ?_
   refine yA_ ?_
   refine RO_nil ?_
   refine W_ret ?_
   refine ⟨trivial, yb, (ResV_tmp1 rfl rfl ?_)⟩
   exact xbyy
 ·
  refine W_skip ?_
  refine W_seq (W_reg ?_)
  refine yR (ov_fieldAddr rfl rfl fa31_0 rfl) ?_
  refine yR (ov_load rfl rfl ye ⟨trivial, yn⟩ rfl rfl tok5) ?_
  refine yR (ov_neq rfl rfl rfl) ?_
  refine yM ?_
  refine yG (fun hg => OpX.v (ov_load rfl rfl ye trivial rfl rfl tok31)) ?_
  refine yG (fun hg => OpX.v (ov_move rfl rfl)) ?_
  refine yG (fun hg => yV rfl rfl (looks_cons (look_gv rfl (bq hg)) (looks_cons (look_gv rfl (bq hg)) looks_nil)) Tryz.call58 (c_ref08_Check q hq (1 - tu p) _ yo yo)) ?_
  refine yG (fun hg => OpX.v (ov_not rfl (look_gv rfl (bq hg)))) ?_
  refine yR (ov_or rfl rfl rfl rfl (fun h => bq h)) ?_
  refine yA_ ?_
  refine RO_nil ?_
  refine W_ret ?_
  refine ⟨trivial, yb, (ResV_tmp1 rfl rfl ?_)⟩
  exact xbyy

theorem c_ref17_Would (p : Pos) (hp : POK p) (M : List Fact) : Con Tryz.prog 44 [enc posT p] M (fun u M' => M' = .row u 55 moveT (wouldR p) :: M) := by
 have hb := hp.board
 have hpw := hp.wf
 have hvr := hp.vr
 have htu := hp.tu
 have hpg := hp.pg
 have hvr0 := hp.vr
 have htu0 := hp.tu
 simp only [vr] at hvr0
 simp only [tu] at htu0
 have hal := allR_len p
 refine con_of_W (n := 77) Tryz.func44 rfl rfl yn ?_
 refine W_seq (W_regl fun w0 => ?_)
 refine LO_l rfl (by decide : 1 < 77) (ol_box (t := posT) rfl rfl rfl yf (fun b1 => ?_))
 refine zA ?_
 refine LO_nil ?_
 refine W_seq ?_
 refine W_row 55 moveT ?_
 refine W_row 55 moveT ?_
 refine W_reg ?_
 refine yA_ ?_
 refine yA_ ?_
 refine RO_nil ?_
 refine W_seq ?_
 refine W_seq (W_reg ?_)
 refine yR (ov_load rfl rfl ye trivial rfl rfl tok31) ?_
 refine yP (yV rfl rfl rfl Tryz.call23 (by apply c_ref13_There <;> exact yz)) ?_
 refine yR (ov_not rfl rfl) ?_
 refine yM ?_
 refine yG (fun hg => OpX.v (ov_fieldAddr rfl rfl fa31_0 rfl)) ?_
 refine yG (fun hg => OpX.v (ov_load rfl (look_gv rfl (bq hg)) ye ⟨trivial, yn⟩ rfl rfl tok5)) ?_
 refine yG (fun hg => OpX.v (ov_fieldAddr rfl rfl fa31_4 rfl)) ?_
 refine yG (fun hg => OpX.v (ov_load rfl (look_gv rfl (bq hg)) ye ⟨trivial, yn⟩ rfl rfl tok5)) ?_
 refine yG (fun hg => yV rfl rfl (looks_cons (look_gv rfl (bq hg)) (looks_cons (look_gv rfl (bq hg)) looks_nil)) Tryz.call96 (by apply c_ref07_Royal <;> exact yz)) ?_
 refine yG (fun hg => OpX.v (ov_move rfl (look_gv rfl (bq hg)))) ?_
 refine RO_g rfl rfl rfl rfl rfl yd (fun hg1 hg2 => OpX.v (ov_load rfl rfl ye trivial rfl rfl tok31)) ?_
 refine RO_g rfl rfl rfl rfl rfl yd (fun hg1 hg2 => OpX.v (ov_fieldAddr rfl rfl fa31_4 rfl)) ?_
 refine RO_g rfl rfl rfl rfl rfl yd (fun hg1 hg2 => OpX.v (ov_load rfl (look_gv rfl (bq2 hg1 hg2)) ye ⟨trivial, yn⟩ rfl rfl tok5)) ?_
 refine RO_g rfl rfl rfl rfl rfl yd (fun hg1 hg2 => by have hgx := hg2; (try simp only [yS] at hgx); exact yV rfl rfl (looks_cons (look_gv rfl (bq2 hg1 hg2)) (looks_cons (look_gv rfl (bq2 hg1 hg2)) looks_nil)) Tryz.call91 (by apply c_ref17_King <;> exact yz)) ?_
 refine RO_g rfl rfl rfl rfl rfl yd (fun hg1 hg2 => by have hgx := hg2; (try simp only [yS] at hgx); exact OpX.v (ov_lss rfl (look_gv rfl (bq2 hg1 hg2)) rfl)) ?_
 refine yG (fun hg => OpX.v (ov_and rfl (look_gv rfl (bq hg)) rfl rfl (fun h => bq2 (bq hg) h))) ?_
 refine yR (ov_or rfl rfl rfl rfl (fun h => bq h)) ?_
 refine RO_nil ?_
 refine W_cond rfl (fun hc1 => ?_) (fun hc1 => ?_)
 ·
  refine W_seq (W_reg ?_)
  refine yA_ ?_
  refine RO_nil ?_
  refine W_ret ?_
  refine ⟨trivial, _, .row _ 55 moveT (wouldR p) :: M, (ResV_tmp1 rfl rfl rfl), ?_, rfl⟩
  exact xbzy
 ·
  have ht1 : tu p ≤ 1 := there_tu (Bool.or_eq_false_iff.1 hc1).1
  refine W_skip ?_
  refine W_seq (W_regl fun w0 => ?_)
  refine yL (ov_load rfl rfl ye trivial rfl rfl tok31) ?_
  refine LO_l rfl (by decide : 25 < 77) (ol_call (v0 := []) (v2 := []) rfl rfl rfl Tryz.call24 (Con.mono (by apply c_ref16_All <;> exact yz) ?_))
  rintro u5 _ rfl
  refine zA ?_
  refine LO_nil ?_
  refine W_seq ?_
  refine W_seq (W_reg ?_)
  refine yA_ ?_
  refine RO_nil ?_
  refine W_block ?_
  refine W_loop (σ := Nat × Value × Value) (fun s => s.1 ≤ (allR p).length) (fun s => [(1, ptrv b1 posT []), (5, u5), (6, .int .i64 (s.1 : Int)), (3, s.2.1), (4, s.2.2)]) (fun s => .row u5 55 moveT (allR p) :: .row s.2.1 55 moveT (wdL p s.1) :: .row s.2.2 55 moveT (wdT p s.1) :: .box b1 31 posT p :: M) (fun s => (allR p).length - s.1) ((0, .slice none 0 0, .slice none 0 0)) (by simp) ⟨rfl, rfl, rfl, rfl, rfl, trivial⟩ yb ?_
  rintro ⟨i, v, w⟩ hI
  simp only at hI
  refine W_seq ?_
  refine W_seq (W_reg ?_)
  refine yM ?_
  refine yM ?_
  refine yR (ov_len rfl rfl xaby Tryz.underlying48) ?_
  refine yR (ov_lss rfl rfl rfl) ?_
  refine RO_nil ?_
  refine W_cond rfl (fun hc2 => ?_) (fun hc2 => ?_)
  ·
   try simp only [yS] at hc2
   have hmm := allR_ok hp (i := i) yo
   have hmd := POK_madeR hp hmm.1 hmm.2
   have hmv := wf_move ((allR p).getD ((i : Nat) : Int).toNat (zero moveT))
   have hl1 := wdL_len p i
   have hl2 := wdT_len p i
   refine W_skip ?_
   refine W_seq ?_
   refine W_block ?_
   refine W_seq ?_
   refine W_seq ?_
   refine W_regd mixed yk ?_
   refine yR (ov_load rfl rfl ye trivial rfl rfl tok31) ?_
   refine yR (ov_load rfl rfl ye trivial rfl rfl tok31) ?_
   refine yM ?_
   refine yM ?_
   refine yR (ov_indexAddr_sl (t := moveT) rfl rfl xaby rfl Tryz.underlying48 Tryz.sizeOf55 ya ya) ?_
   refine yR (ov_load_e (t := moveT) (p := []) rfl rfl xaby ya trivial rfl rfl tok55) ?_
   refine yP (yV rfl rfl rfl Tryz.call56 (c_ref16_Made p hp ((allR p).getD ((i : Nat) : Int).toNat (zero moveT)) hmm.1 _ hmm.2)) ?_
   refine yP (yV rfl rfl rfl Tryz.call97 (c_ref17_leaves p hp (madeR p ((allR p).getD ((i : Nat) : Int).toNat (zero moveT))) hmd _ ht1)) ?_
   refine yR (ov_not rfl rfl) ?_
   refine RO_nil ?_
   refine W_cond rfl (fun hc3 => ?_) (fun hc3 => ?_)
   ·
    refine W_exit ?_
    refine W_reg ?_
    refine yM ?_
    refine yR (ov_add rfl rfl rfl ya) ?_
    refine yA_ ?_
    refine RO_nil ?_
    exact ⟨(i + 1, _, _), xaly, xaly, ⟨rfl, rfl, rfl, rfl, rfl, trivial⟩, xasy⟩
   ·
    refine W_skip ?_
    refine W_seq (W_regl fun w0 => ?_)
    refine zM ?_
    refine zM ?_
    refine zM ?_
    refine yL (ov_indexAddr_sl (t := moveT) rfl rfl xaby rfl Tryz.underlying48 Tryz.sizeOf55 ya ya) ?_
    refine yL (ov_load_e (t := moveT) (p := []) rfl rfl xaby ya trivial rfl rfl tok55) ?_
    refine LO_l rfl (by decide : 46 < 77) (ol_buildSlice (t := moveT) (xs := [_]) rfl rfl rfl Tryz.underlying48 tok55 xafy yd yd yd (fun v1 => ?_))
    refine LO_l rfl (by decide : 47 < 77) (ol_ap2 (t := moveT) rfl rfl rfl xaby ap48 xahy xahy (fun v2 => ?_))
    refine zA ?_
    refine LO_nil ?_
    refine W_seq ?_
    refine W_regd mixed yk ?_
    refine yR (ov_fieldAddr rfl rfl fa31_0 rfl) ?_
    refine yR (ov_load rfl rfl ye ⟨trivial, yn⟩ rfl rfl tok5) ?_
    refine yR (ov_eql rfl rfl rfl) ?_
    refine yM ?_
    refine yG (fun hg => OpX.v (ov_load rfl rfl ye trivial rfl rfl tok31)) ?_
    refine yG (fun hg => OpX.v (ov_move rfl rfl)) ?_
    refine yG (fun hg => OpX.v (ov_move rfl rfl)) ?_
    refine yG (fun hg => OpX.v (ov_indexAddr_sl (t := moveT) rfl (look_gv rfl (bq hg)) xaby (look_gv rfl (bq hg)) Tryz.underlying48 Tryz.sizeOf55 ya ya)) ?_
    refine yG (fun hg => OpX.v (ov_load_e (t := moveT) (p := []) rfl (look_gv rfl (bq hg)) xaby ya trivial rfl rfl tok55)) ?_
    refine yG (fun hg => yV rfl rfl (looks_cons (look_gv rfl (bq hg)) (looks_cons (look_gv rfl (bq hg)) looks_nil)) Tryz.call98 (c_ref13_Taken p hp ((allR p).getD ((i : Nat) : Int).toNat (zero moveT)) hmm.1 _)) ?_
    refine yG (fun hg => OpX.v (ov_geq rfl (look_gv rfl (bq hg)) rfl)) ?_
    refine yR (ov_and rfl rfl rfl rfl (fun h => bq h)) ?_
    refine RO_nil ?_
    refine W_cond rfl (fun hc4 => ?_) (fun hc4 => ?_)
    ·
     refine W_regl (fun w0 => ?_)
     refine zM ?_
     refine zM ?_
     refine zM ?_
     refine yL (ov_indexAddr_sl (t := moveT) rfl rfl xaby rfl Tryz.underlying48 Tryz.sizeOf55 ya ya) ?_
     refine yL (ov_load_e (t := moveT) (p := []) rfl rfl xaby ya trivial rfl rfl tok55) ?_
     refine LO_l rfl (by decide : 65 < 77) (ol_buildSlice (t := moveT) (xs := [_]) rfl rfl rfl Tryz.underlying48 tok55 xafy yd yd yd (fun v3 => ?_))
     refine LO_l rfl (by decide : 66 < 77) (ol_ap4 (t := moveT) rfl rfl rfl xaby ap48 xahy xahy (fun v4 => ?_))
     refine zA ?_
     refine LO_nil ?_
     refine W_reg ?_
     refine yM ?_
     refine yR (ov_add rfl rfl rfl ya) ?_
     refine yA_ ?_
     refine RO_nil ?_
     exact ⟨(i + 1, _, _), xaly, xaly, ⟨rfl, rfl, rfl, rfl, rfl, trivial⟩, xasy⟩
    ·
     refine W_skip ?_
     refine W_reg ?_
     refine yM ?_
     refine yR (ov_add rfl rfl rfl ya) ?_
     refine yA_ ?_
     refine RO_nil ?_
     exact ⟨(i + 1, _, _), xaly, xaly, ⟨rfl, rfl, rfl, rfl, rfl, trivial⟩, xasy⟩
  ·
   try simp only [yS] at hc2
   refine W_exit ?_
   refine W_seq ?_
   refine W_seq (W_reg ?_)
   refine yR (ov_fieldAddr rfl rfl fa31_0 rfl) ?_
   refine yR (ov_load rfl rfl ye ⟨trivial, yn⟩ rfl rfl tok5) ?_
   refine yR (ov_eql rfl rfl rfl) ?_
   refine yM ?_
   refine yG (fun hg => OpX.v (ov_move rfl rfl)) ?_
   refine yG (fun hg => OpX.v (ov_len rfl (look_gv rfl (bq hg)) xaby Tryz.underlying48)) ?_
   refine yG (fun hg => OpX.v (ov_gtr rfl (look_gv rfl (bq hg)) rfl)) ?_
   refine yR (ov_and rfl rfl rfl rfl (fun h => bq h)) ?_
   refine RO_nil ?_
   refine W_cond rfl (fun hc5 => ?_) (fun hc5 => ?_)
   ·
    refine W_seq (W_reg ?_)
    refine yM ?_
    refine yA_ ?_
    refine RO_nil ?_
    refine W_ret ?_
    refine ⟨trivial, _, .row _ 55 moveT (wouldR p) :: M, (ResV_tmp1 rfl rfl rfl), ?_, rfl⟩
    exact xbzy
   ·
    refine W_skip ?_
    refine W_seq (W_reg ?_)
    refine yM ?_
    refine yA_ ?_
    refine RO_nil ?_
    refine W_ret ?_
    refine ⟨trivial, _, .row _ 55 moveT (wouldR p) :: M, (ResV_tmp1 rfl rfl rfl), ?_, rfl⟩
    exact xbzy

theorem c_ref17_win (c w : Int) (M : List Fact) : Pure Tryz.prog 92 [.int .u8 c, .int .u8 w] M (enc resT (winR c w)) := by
 refine pure_of_W (n := 11) Tryz.func92 rfl rfl yn ?_
 refine W_seq (W_regl fun w0 => ?_)
 refine LO_l rfl (by decide : 4 < 11) (ol_alloc (t := resT) rfl tok58 yf (fun b1 => ?_))
 refine LO_nil ?_
 refine W_seq ?_
 refine W_seq (W_reg ?_)
 refine yM ?_
 refine yR (ov_eql rfl rfl rfl) ?_
 refine RO_nil ?_
 refine W_cond rfl (fun hc1 => ?_) (fun hc1 => ?_)
 ·
  refine W_seq (W_regl fun w0 => ?_)
  refine zM ?_
  refine yL (ov_build (fs := fs57) (ds := [⟨0, _⟩, ⟨1, _⟩]) rfl rfl bl58 ⟨yn, yf, ⟨yn, yf, trivial⟩⟩ rfl) ?_
  refine LO_l rfl trivial (ol_sw0 rfl rfl rfl rfl yf tok58 ?_)
  refine LO_nil ?_
  refine W_ret ?_
  refine ⟨trivial, yb, (ResV_cell rfl rfl ye rfl tok58 ?_)⟩
  first | exact val_enc (show winR c w = _ from if_pos hc1).symm | exact val_enc (show winR c w = _ from if_neg (Bool.eq_false_iff.1 hc1)).symm
 ·
  refine W_skip ?_
  refine W_seq (W_regl fun w0 => ?_)
  refine zM ?_
  refine yL (ov_build (fs := fs57) (ds := [⟨0, _⟩, ⟨1, _⟩]) rfl rfl bl58 ⟨yn, yf, ⟨yn, yf, trivial⟩⟩ rfl) ?_
  refine LO_l rfl trivial (ol_sw0 rfl rfl rfl rfl yf tok58 ?_)
  refine LO_nil ?_
  refine W_ret ?_
  refine ⟨trivial, yb, (ResV_cell rfl rfl ye rfl tok58 ?_)⟩
  first | exact val_enc (show winR c w = _ from if_pos hc1).symm | exact val_enc (show winR c w = _ from if_neg (Bool.eq_false_iff.1 hc1)).symm

theorem c_ref17_hill (s : Int) (M : List Fact) : Pure Tryz.prog 93 [.int .i64 s] M (.bool (hillR s)) := by
 refine pure_of_W (n := 17) Tryz.func93 rfl rfl yn ?_
 refine W_seq (W_reg ?_)
 refine yA_ ?_
 refine RO_nil ?_
 refine W_seq (W_reg ?_)
 refine yM ?_
 refine yR (ov_eql rfl rfl rfl) ?_
 refine yM ?_
 refine yG (fun hg => OpX.v (ov_move rfl rfl)) ?_
 refine yG (fun hg => OpX.v (ov_eql rfl (look_gv rfl (bq hg)) rfl)) ?_
 refine yR (ov_or rfl rfl rfl rfl (fun h => bq h)) ?_
 refine yM ?_
 refine yG (fun hg => OpX.v (ov_move rfl rfl)) ?_
 refine yG (fun hg => OpX.v (ov_eql rfl (look_gv rfl (bq hg)) rfl)) ?_
 refine yR (ov_or rfl rfl rfl rfl (fun h => bq h)) ?_
 refine yM ?_
 refine yG (fun hg => OpX.v (ov_move rfl rfl)) ?_
 refine yG (fun hg => OpX.v (ov_eql rfl (look_gv rfl (bq hg)) rfl)) ?_
 refine yR (ov_or rfl rfl rfl rfl (fun h => bq h)) ?_
 refine yA_ ?_
 refine RO_nil ?_
 refine W_ret ?_
 refine ⟨trivial, yb, (ResV_tmp1 rfl rfl ?_)⟩
 rfl

theorem c_ref17_racing (p : Pos) (hp : POK p) (M : List Fact) : Pure Tryz.prog 95 [enc posT p] M (enc resT (racR p)) := by
 have hb := hp.board
 have hpw := hp.wf
 have hvr := hp.vr
 have htu := hp.tu
 have hpg := hp.pg
 have hvr0 := hp.vr
 have htu0 := hp.tu
 simp only [vr] at hvr0
 simp only [tu] at htu0
 have hwl := wouldR_len p
 have hk0 := find_rng p 0 6
 have hk1 := find_rng p 1 6
 refine pure_of_W (n := 55) Tryz.func95 rfl rfl yn ?_
 refine W_seq (W_regl fun w0 => ?_)
 refine LO_l rfl (by decide : 1 < 55) (ol_box (t := posT) rfl rfl rfl yf (fun b1 => ?_))
 refine LO_l rfl (by decide : 2 < 55) (ol_alloc (t := resT) rfl tok58 yf (fun b2 => ?_))
 refine LO_nil ?_
 refine W_seq ?_
 refine W_regd mixed yk ?_
 refine yR (ov_load rfl rfl ye trivial rfl rfl tok31) ?_
 refine yP (yV rfl rfl rfl Tryz.call91 (by apply c_ref17_King <;> exact yz)) ?_
 refine yR (ov_gtr rfl rfl rfl) ?_
 refine yR (ov_load rfl rfl ye trivial rfl rfl tok31) ?_
 refine yP (yV rfl rfl rfl Tryz.call91 (by apply c_ref17_King <;> exact yz)) ?_
 refine yR (ov_gtr rfl rfl rfl) ?_
 refine yA_ ?_
 refine yA_ ?_
 refine RO_nil ?_
 refine W_seq ?_
 refine W_seq (W_reg ?_)
 refine yM ?_
 refine yM ?_
 refine yG (fun hg => OpX.v (ov_move rfl rfl)) ?_
 refine yR (ov_and rfl rfl rfl rfl (fun h => bq h)) ?_
 refine RO_nil ?_
 refine W_cond rfl (fun hc1 => ?_) (fun hc1 => ?_)
 ·
  refine W_seq (W_regl fun w0 => ?_)
  refine yL (ov_build (fs := fs57) (ds := [⟨0, _⟩, ⟨1, _⟩]) rfl rfl bl58 ⟨yn, yf, ⟨yn, yf, trivial⟩⟩ rfl) ?_
  refine LO_l rfl trivial (ol_sw0 rfl rfl rfl rfl yf tok58 ?_)
  refine LO_nil ?_
  refine W_ret ?_
  refine ⟨trivial, yb, (ResV_cell rfl rfl ye rfl tok58 ?_)⟩
  exact xcay
 ·
  refine W_skip ?_
  refine W_seq ?_
  refine W_seq (W_reg ?_)
  refine yM ?_
  refine RO_nil ?_
  refine W_cond rfl (fun hc2 => ?_) (fun hc2 => ?_)
  ·
   refine W_seq (W_regl fun w0 => ?_)
   refine yQ (yV rfl rfl rfl Tryz.call92 (by apply c_ref17_win <;> exact yz)) ?_
   refine LO_l rfl trivial (ol_sw0 rfl rfl rfl rfl yf tok58 ?_)
   refine LO_nil ?_
   refine W_ret ?_
   refine ⟨trivial, yb, (ResV_cell rfl rfl ye rfl tok58 ?_)⟩
   exact xcay
  ·
   refine W_skip ?_
   refine W_seq ?_
   refine W_seq (W_reg ?_)
   refine yM ?_
   refine yR (ov_not rfl rfl) ?_
   refine RO_nil ?_
   refine W_cond rfl (fun hc3 => ?_) (fun hc3 => ?_)
   ·
    refine W_seq (W_regl fun w0 => ?_)
    refine yL (ov_build (fs := fs57) (ds := []) rfl rfl bl58 trivial rfl) ?_
    refine LO_l rfl trivial (ol_sw0 rfl rfl rfl rfl yf tok58 ?_)
    refine LO_nil ?_
    refine W_ret ?_
    refine ⟨trivial, yb, (ResV_cell rfl rfl ye rfl tok58 ?_)⟩
    exact xcay
   ·
    refine W_skip ?_
    refine W_seq (W_regl fun w0 => ?_)
    refine yL (ov_load rfl rfl ye trivial rfl rfl tok31) ?_
    refine LO_l rfl (by decide : 24 < 55) (ol_call (v0 := []) (v2 := []) rfl rfl rfl Tryz.call44 (Con.mono (by apply c_ref17_Would <;> exact yz) ?_))
    rintro u5 _ rfl
    refine zA ?_
    refine LO_nil ?_
    refine W_seq ?_
    refine W_seq (W_reg ?_)
    refine yA_ ?_
    refine RO_nil ?_
    refine W_block ?_
    refine W_loop (σ := Nat) (fun i => i ≤ (wouldR p).length ∧ okTo (racF p) i = true ∧ (0 < i → decide (tu p = 1) = true)) (fun i => [(1, ptrv b1 posT []), (2, ptrv b2 resT []), (5, u5), (6, .int .i64 (i : Int))]) (fun i => .row u5 55 moveT (wouldR p) :: .box b2 58 resT (zero resT) :: .box b1 31 posT p :: M) (fun i => (wouldR p).length - i) (0) ⟨by omega, rfl, fun h => absurd h yo⟩ ⟨rfl, rfl, rfl, rfl, trivial⟩ yb ?_
    rintro i ⟨hI, hN, hZ⟩
    refine W_seq ?_
    refine W_seq (W_reg ?_)
    refine yM ?_
    refine yM ?_
    refine yR (ov_len rfl rfl xaby Tryz.underlying48) ?_
    refine yR (ov_lss rfl rfl rfl) ?_
    refine yM ?_
    refine yG (fun hg => OpX.v (ov_fieldAddr rfl rfl fa31_4 rfl)) ?_
    refine yG (fun hg => OpX.v (ov_load rfl (look_gv rfl (bq hg)) ye ⟨trivial, yn⟩ rfl rfl tok5)) ?_
    refine yG (fun hg => OpX.v (ov_eql rfl (look_gv rfl (bq hg)) rfl)) ?_
    refine yR (ov_and rfl rfl rfl rfl (fun h => bq h)) ?_
    refine RO_nil ?_
    refine W_cond rfl (fun hc4 => ?_) (fun hc4 => ?_)
    ·
     have hil := of_decide_eq_true (Bool.and_eq_true_iff.1 hc4).1
     have hil2 : i < (wouldR p).length := by omega
     have hwr := would_rng hp (i := i) hil2
     have hwr1 : @LE.le Int _ 0 (((wouldR p).getD ((i : Nat) : Int).toNat (zero moveT)).1) ∧ @LT.lt Int _ (((wouldR p).getD ((i : Nat) : Int).toNat (zero moveT)).1) 64 := hwr.1
     refine W_skip ?_
     refine W_seq ?_
     refine W_block ?_
     refine W_seq ?_
     refine W_regd mixed yk ?_
     refine yM ?_
     refine yM ?_
     refine yR (ov_indexAddr_sl (t := moveT) rfl rfl xaby rfl Tryz.underlying48 Tryz.sizeOf55 ya ya) ?_
     refine yR (ov_fieldAddr_e rfl rfl xaby ya fa55_0 rfl) ?_
     refine yR (ov_load_e (t := moveT) (p := [.fld 0]) rfl rfl xaby ya ⟨trivial, yn⟩ rfl rfl tok26) ?_
     refine yR (ov_convn rfl rfl Tryz.underlying26 Tryz.underlying3 ya) ?_
     refine yR (ov_load rfl rfl ye trivial rfl rfl tok31) ?_
     refine yP (yV rfl rfl rfl Tryz.call91 (by apply c_ref17_King <;> exact yz)) ?_
     refine yR (ov_eql rfl rfl rfl) ?_
     refine yM ?_
     refine yG (fun hg => OpX.v (ov_move rfl rfl)) ?_
     refine yG (fun hg => OpX.v (ov_move rfl rfl)) ?_
     refine yG (fun hg => OpX.v (ov_indexAddr_sl (t := moveT) rfl (look_gv rfl (bq hg)) xaby (look_gv rfl (bq hg)) Tryz.underlying48 Tryz.sizeOf55 ya ya)) ?_
     refine yG (fun hg => OpX.v (ov_fieldAddr_e rfl (look_gv rfl (bq hg)) xaby ya fa55_1 rfl)) ?_
     refine yG (fun hg => OpX.v (ov_load_e (t := moveT) (p := [.fld 1]) rfl (look_gv rfl (bq hg)) xaby ya ⟨trivial, yn⟩ rfl rfl tok26)) ?_
     refine yG (fun hg => OpX.v (ov_gtr rfl (look_gv rfl (bq hg)) rfl)) ?_
     refine yR (ov_and rfl rfl rfl rfl (fun h => bq h)) ?_
     refine RO_nil ?_
     refine W_cond rfl (fun hc5 => ?_) (fun hc5 => ?_)
     ·
      refine W_seq (W_regl fun w0 => ?_)
      refine yL (ov_build (fs := fs57) (ds := []) rfl rfl bl58 trivial rfl) ?_
      refine LO_l rfl trivial (ol_sw1 rfl rfl rfl rfl yf tok58 ?_)
      refine LO_nil ?_
      refine W_ret ?_
      refine ⟨trivial, yb, (ResV_cell rfl rfl ye rfl tok58 ?_)⟩
      exact xcay
     ·
      refine W_skip ?_
      refine W_reg ?_
      refine yM ?_
      refine yR (ov_add rfl rfl rfl ya) ?_
      refine yA_ ?_
      refine RO_nil ?_
      exact ⟨i + 1, yo, ⟨by omega, okTo_next hN hc5, fun _ => (Bool.and_eq_true_iff.1 hc4).2⟩, ⟨rfl, rfl, rfl, rfl, trivial⟩, yb⟩
    ·
     refine W_exit ?_
     refine W_seq (W_regl fun w0 => ?_)
     refine yQ (yV rfl rfl rfl Tryz.call92 (by apply c_ref17_win <;> exact yz)) ?_
     refine LO_l rfl trivial (ol_sw1 rfl rfl rfl rfl yf tok58 ?_)
     refine LO_nil ?_
     refine W_ret ?_
     refine ⟨trivial, yb, (ResV_cell rfl rfl ye rfl tok58 ?_)⟩
     exact xcay

theorem c_ref17_Won (p : Pos) (hp : POK p) (M : List Fact) : Pure Tryz.prog 43 [enc posT p] M (enc resT (wonR p)) := by
 have hb := hp.board
 have hpw := hp.wf
 have hvr := hp.vr
 have htu := hp.tu
 have hpg := hp.pg
 have hvr0 := hp.vr
 have htu0 := hp.tu
 simp only [vr] at hvr0
 simp only [tu] at htu0
 have hc0 := ckAt_rng hp (tu p)
 refine pure_of_W (n := 79) Tryz.func43 rfl rfl yn ?_
 refine W_seq (W_regl fun w0 => ?_)
 refine LO_l rfl (by decide : 1 < 79) (ol_box (t := posT) rfl rfl rfl yf (fun b1 => ?_))
 refine LO_l rfl (by decide : 2 < 79) (ol_alloc (t := resT) rfl tok58 yf (fun b2 => ?_))
 refine LO_nil ?_
 refine W_seq ?_
 refine W_seq (W_reg ?_)
 refine yR (ov_load rfl rfl ye trivial rfl rfl tok31) ?_
 refine yP (yV rfl rfl rfl Tryz.call23 (by apply c_ref13_There <;> exact yz)) ?_
 refine yR (ov_not rfl rfl) ?_
 refine RO_nil ?_
 refine W_cond rfl (fun hc1 => ?_) (fun hc1 => ?_)
 ·
  refine W_seq (W_regl fun w0 => ?_)
  refine yL (ov_build (fs := fs57) (ds := []) rfl rfl bl58 trivial rfl) ?_
  refine LO_l rfl trivial (ol_sw0 rfl rfl rfl rfl yf tok58 ?_)
  refine LO_nil ?_
  refine W_ret ?_
  refine ⟨trivial, yb, (ResV_cell rfl rfl ye rfl tok58 ?_)⟩
  exact xcby
 ·
  have ht1 : tu p ≤ 1 := there_tu hc1
  have ht2 := ht1
  simp only [tu] at ht2
  refine W_skip ?_
  refine W_seq ?_
  refine W_regd mixed yk ?_
  refine yR (ov_fieldAddr rfl rfl fa31_4 rfl) ?_
  refine yR (ov_load rfl rfl ye ⟨trivial, yn⟩ rfl rfl tok5) ?_
  refine yR (ov_fieldAddr rfl rfl fa31_4 rfl) ?_
  refine yR (ov_load rfl rfl ye ⟨trivial, yn⟩ rfl rfl tok5) ?_
  refine yR (ov_sub rfl rfl rfl ya) ?_
  refine yA_ ?_
  refine yA_ ?_
  refine RO_nil ?_
  refine W_seq ?_
  refine W_seq (W_reg ?_)
  refine yR (ov_fieldAddr rfl rfl fa31_0 rfl) ?_
  refine yR (ov_load rfl rfl ye ⟨trivial, yn⟩ rfl rfl tok5) ?_
  refine RO_nil ?_
  refine W_block ?_
  refine W_seq (W_reg ?_)
  refine yR (ov_eql rfl rfl rfl) ?_
  refine yA_ ?_
  refine RO_nil ?_
  refine W_cond rfl (fun hc2 => ?_) (fun hc2 => ?_)
  ·
   refine W_seq (W_reg ?_)
   refine yR (ov_load rfl rfl ye trivial rfl rfl tok31) ?_
   refine yM ?_
   refine yP (yV rfl rfl rfl Tryz.call91 (by apply c_ref17_King <;> exact yz)) ?_
   refine yR (ov_lss rfl rfl rfl) ?_
   refine RO_nil ?_
   refine W_cond rfl (fun hc3 => ?_) (fun hc3 => ?_)
   ·
    refine W_seq (W_regl fun w0 => ?_)
    refine zM ?_
    refine yQ (yV rfl rfl rfl Tryz.call92 (by apply c_ref17_win <;> exact yz)) ?_
    refine LO_l rfl trivial (ol_sw0 rfl rfl rfl rfl yf tok58 ?_)
    refine LO_nil ?_
    refine W_ret ?_
    refine ⟨trivial, yb, (ResV_cell rfl rfl ye rfl tok58 ?_)⟩
    exact xcby
   ·
    refine W_skip ?_
    refine W_seq (W_regl fun w0 => ?_)
    refine yL (ov_build (fs := fs57) (ds := []) rfl rfl bl58 trivial rfl) ?_
    refine LO_l rfl trivial (ol_sw0 rfl rfl rfl rfl yf tok58 ?_)
    refine LO_nil ?_
    refine W_ret ?_
    refine ⟨trivial, yb, (ResV_cell rfl rfl ye rfl tok58 ?_)⟩
    exact xcby
  ·
   refine W_seq (W_reg ?_)
   refine yR (ov_eql rfl rfl rfl) ?_
   refine yA_ ?_
   refine RO_nil ?_
   refine W_cond rfl (fun hc4 => ?_) (fun hc4 => ?_)
   ·
    refine W_seq ?_
    refine W_seq (W_reg ?_)
    refine yM ?_
    refine yR (ov_fieldAddr rfl rfl fa31_7 rfl) ?_
    refine yR (ov_indexAddr rfl rfl rfl Tryz.underlying29 rfl Tryz.sizeOf5 ya ya) ?_
    refine yR (ov_load rfl rfl ye ⟨⟨trivial, yn⟩, (tn ya ya)⟩ rfl rfl tok5) ?_
    refine yR (ov_geq rfl rfl rfl) ?_
    refine RO_nil ?_
    refine W_cond rfl (fun hc5 => ?_) (fun hc5 => ?_)
    ·
     refine W_seq (W_regl fun w0 => ?_)
     refine zM ?_
     refine yQ (yV rfl rfl rfl Tryz.call92 (by apply c_ref17_win <;> exact yz)) ?_
     refine LO_l rfl trivial (ol_sw0 rfl rfl rfl rfl yf tok58 ?_)
     refine LO_nil ?_
     refine W_ret ?_
     refine ⟨trivial, yb, (ResV_cell rfl rfl ye rfl tok58 ?_)⟩
     exact xcby
    ·
     refine W_skip ?_
     refine W_seq (W_reg ?_)
     refine yM ?_
     refine yR (ov_fieldAddr rfl rfl fa31_7 rfl) ?_
     refine yR (ov_indexAddr rfl rfl rfl Tryz.underlying29 rfl Tryz.sizeOf5 ya ya) ?_
     refine yR (ov_load rfl rfl ye ⟨⟨trivial, yn⟩, (tn ya ya)⟩ rfl rfl tok5) ?_
     refine yR (ov_geq rfl rfl rfl) ?_
     refine RO_nil ?_
     refine W_cond rfl (fun hc6 => ?_) (fun hc6 => ?_)
     ·
      refine W_seq (W_regl fun w0 => ?_)
      refine zM ?_
      refine yQ (yV rfl rfl rfl Tryz.call92 (by apply c_ref17_win <;> exact yz)) ?_
      refine LO_l rfl trivial (ol_sw0 rfl rfl rfl rfl yf tok58 ?_)
      refine LO_nil ?_
      refine W_ret ?_
      refine ⟨trivial, yb, (ResV_cell rfl rfl ye rfl tok58 ?_)⟩
      exact xcby
     ·
      refine W_skip ?_
      refine W_seq (W_regl fun w0 => ?_)
      refine yL (ov_build (fs := fs57) (ds := []) rfl rfl bl58 trivial rfl) ?_
      refine LO_l rfl trivial (ol_sw0 rfl rfl rfl rfl yf tok58 ?_)
      refine LO_nil ?_
      refine W_ret ?_
      refine ⟨trivial, yb, (ResV_cell rfl rfl ye rfl tok58 ?_)⟩
      exact xcby
   ·
    refine W_seq (W_reg ?_)
    refine yR (ov_eql rfl rfl rfl) ?_
    refine yA_ ?_
    refine RO_nil ?_
    refine W_cond rfl (fun hc7 => ?_) (fun hc7 => ?_)
    ·
     refine W_seq ?_
     refine W_seq (W_reg ?_)
     refine yR (ov_load rfl rfl ye trivial rfl rfl tok31) ?_
     refine yM ?_
     refine yP (yV rfl rfl rfl Tryz.call91 (by apply c_ref17_King <;> exact yz)) ?_
     refine yP (yV rfl rfl rfl Tryz.call93 (by apply c_ref17_hill <;> exact yz)) ?_
     refine RO_nil ?_
     refine W_cond rfl (fun hc8 => ?_) (fun hc8 => ?_)
     ·
      refine W_seq (W_regl fun w0 => ?_)
      refine zM ?_
      refine yQ (yV rfl rfl rfl Tryz.call92 (by apply c_ref17_win <;> exact yz)) ?_
      refine LO_l rfl trivial (ol_sw0 rfl rfl rfl rfl yf tok58 ?_)
      refine LO_nil ?_
      refine W_ret ?_
      refine ⟨trivial, yb, (ResV_cell rfl rfl ye rfl tok58 ?_)⟩
      exact xcby
     ·
      refine W_skip ?_
      refine W_seq (W_reg ?_)
      refine yR (ov_load rfl rfl ye trivial rfl rfl tok31) ?_
      refine yM ?_
      refine yP (yV rfl rfl rfl Tryz.call91 (by apply c_ref17_King <;> exact yz)) ?_
      refine yP (yV rfl rfl rfl Tryz.call93 (by apply c_ref17_hill <;> exact yz)) ?_
      refine RO_nil ?_
      refine W_cond rfl (fun hc9 => ?_) (fun hc9 => ?_)
      ·
       refine W_seq (W_regl fun w0 => ?_)
       refine zM ?_
       refine yQ (yV rfl rfl rfl Tryz.call92 (by apply c_ref17_win <;> exact yz)) ?_
       refine LO_l rfl trivial (ol_sw0 rfl rfl rfl rfl yf tok58 ?_)
       refine LO_nil ?_
       refine W_ret ?_
       refine ⟨trivial, yb, (ResV_cell rfl rfl ye rfl tok58 ?_)⟩
       exact xcby
      ·
       refine W_skip ?_
       refine W_seq (W_regl fun w0 => ?_)
       refine yL (ov_build (fs := fs57) (ds := []) rfl rfl bl58 trivial rfl) ?_
       refine LO_l rfl trivial (ol_sw0 rfl rfl rfl rfl yf tok58 ?_)
       refine LO_nil ?_
       refine W_ret ?_
       refine ⟨trivial, yb, (ResV_cell rfl rfl ye rfl tok58 ?_)⟩
       exact xcby
    ·
     refine W_seq (W_reg ?_)
     refine yR (ov_eql rfl rfl rfl) ?_
     refine yA_ ?_
     refine RO_nil ?_
     refine W_cond rfl (fun hc10 => ?_) (fun hc10 => ?_)
     ·
      refine W_seq (W_reg ?_)
      refine yR (ov_load rfl rfl ye trivial rfl rfl tok31) ?_
      refine yP (yV rfl rfl rfl Tryz.call94 (by apply c_ref17_Men <;> exact yz)) ?_
      refine yR (ov_not rfl rfl) ?_
      refine RO_nil ?_
      refine W_cond rfl (fun hc11 => ?_) (fun hc11 => ?_)
      ·
       refine W_seq (W_regl fun w0 => ?_)
       refine yQ (yV rfl rfl rfl Tryz.call92 (by apply c_ref17_win <;> exact yz)) ?_
       refine LO_l rfl trivial (ol_sw0 rfl rfl rfl rfl yf tok58 ?_)
       refine LO_nil ?_
       refine W_ret ?_
       refine ⟨trivial, yb, (ResV_cell rfl rfl ye rfl tok58 ?_)⟩
       exact xcby
      ·
       refine W_skip ?_
       refine W_seq (W_regl fun w0 => ?_)
       refine yL (ov_build (fs := fs57) (ds := []) rfl rfl bl58 trivial rfl) ?_
       refine LO_l rfl trivial (ol_sw0 rfl rfl rfl rfl yf tok58 ?_)
       refine LO_nil ?_
       refine W_ret ?_
       refine ⟨trivial, yb, (ResV_cell rfl rfl ye rfl tok58 ?_)⟩
       exact xcby
     ·
      refine W_seq (W_reg ?_)
      refine yR (ov_eql rfl rfl rfl) ?_
      refine yA_ ?_
      refine RO_nil ?_
      refine W_cond rfl (fun hc12 => ?_) (fun hc12 => ?_)
      ·
       refine W_seq ?_
       refine W_seq (W_reg ?_)
       refine yR (ov_load rfl rfl ye trivial rfl rfl tok31) ?_
       refine yM ?_
       refine yP (yV rfl rfl rfl Tryz.call94 (by apply c_ref17_Men <;> exact yz)) ?_
       refine yR (ov_not rfl rfl) ?_
       refine RO_nil ?_
       refine W_cond rfl (fun hc13 => ?_) (fun hc13 => ?_)
       ·
        refine W_seq (W_regl fun w0 => ?_)
        refine zM ?_
        refine yQ (yV rfl rfl rfl Tryz.call92 (by apply c_ref17_win <;> exact yz)) ?_
        refine LO_l rfl trivial (ol_sw0 rfl rfl rfl rfl yf tok58 ?_)
        refine LO_nil ?_
        refine W_ret ?_
        refine ⟨trivial, yb, (ResV_cell rfl rfl ye rfl tok58 ?_)⟩
        exact xcby
       ·
        refine W_skip ?_
        refine W_seq (W_reg ?_)
        refine yR (ov_load rfl rfl ye trivial rfl rfl tok31) ?_
        refine yM ?_
        refine yP (yV rfl rfl rfl Tryz.call94 (by apply c_ref17_Men <;> exact yz)) ?_
        refine yR (ov_not rfl rfl) ?_
        refine RO_nil ?_
        refine W_cond rfl (fun hc14 => ?_) (fun hc14 => ?_)
        ·
         refine W_seq (W_regl fun w0 => ?_)
         refine zM ?_
         refine yQ (yV rfl rfl rfl Tryz.call92 (by apply c_ref17_win <;> exact yz)) ?_
         refine LO_l rfl trivial (ol_sw0 rfl rfl rfl rfl yf tok58 ?_)
         refine LO_nil ?_
         refine W_ret ?_
         refine ⟨trivial, yb, (ResV_cell rfl rfl ye rfl tok58 ?_)⟩
         exact xcby
        ·
         refine W_skip ?_
         refine W_seq (W_regl fun w0 => ?_)
         refine yL (ov_build (fs := fs57) (ds := []) rfl rfl bl58 trivial rfl) ?_
         refine LO_l rfl trivial (ol_sw0 rfl rfl rfl rfl yf tok58 ?_)
         refine LO_nil ?_
         refine W_ret ?_
         refine ⟨trivial, yb, (ResV_cell rfl rfl ye rfl tok58 ?_)⟩
         exact xcby
      ·
       refine W_seq (W_reg ?_)
       refine yR (ov_eql rfl rfl rfl) ?_
       refine yA_ ?_
       refine RO_nil ?_
       refine W_cond rfl (fun hc15 => ?_) (fun hc15 => ?_)
       ·
        refine W_seq (W_regl fun w0 => ?_)
        refine yL (ov_load rfl rfl ye trivial rfl rfl tok31) ?_
        refine yQ (yV rfl rfl rfl Tryz.call95 (by apply c_ref17_racing <;> exact yz)) ?_
        refine LO_l rfl trivial (ol_sw0 rfl rfl rfl rfl yf tok58 ?_)
        refine LO_nil ?_
        refine W_ret ?_
        refine ⟨trivial, yb, (ResV_cell rfl rfl ye rfl tok58 ?_)⟩
        exact xcby
       ·
        refine W_skip ?_
        refine W_seq (W_regl fun w0 => ?_)
        refine yL (ov_build (fs := fs57) (ds := []) rfl rfl bl58 trivial rfl) ?_
        refine LO_l rfl trivial (ol_sw0 rfl rfl rfl rfl yf tok58 ?_)
        refine LO_nil ?_
        refine W_ret ?_
        refine ⟨trivial, yb, (ResV_cell rfl rfl ye rfl tok58 ?_)⟩
        exact xcby

theorem c_ref17_List (p : Pos) (hp : POK p) (M : List Fact) : Con Tryz.prog 18 [enc posT p] M (fun u M' => M' = .row u 55 moveT (list17 p) :: M) := by
 have hb := hp.board
 have hpw := hp.wf
 have hvr := hp.vr
 have htu := hp.tu
 have hpg := hp.pg
 have hvr0 := hp.vr
 have htu0 := hp.tu
 simp only [vr] at hvr0
 simp only [tu] at htu0
 refine con_of_W (n := 11) Tryz.func18 rfl rfl yn ?_
 refine W_seq ?_
 refine W_row 55 moveT ?_
 refine W_regl (fun w0 => ?_)
 refine LO_l rfl (by decide : 1 < 11) (ol_box (t := posT) rfl rfl rfl yf (fun b1 => ?_))
 refine zA ?_
 refine LO_nil ?_
 refine W_seq (W_regl fun w0 => ?_)
 refine yL (ov_load rfl rfl ye trivial rfl rfl tok31) ?_
 refine yQ (yV rfl rfl rfl Tryz.call43 (by apply c_ref17_Won <;> exact yz)) ?_
 refine LO_l rfl (by decide : 3 < 11) (ol_alloc (t := resT) rfl tok58 yf (fun b2 => ?_))
 refine LO_l rfl trivial (ol_sw0 rfl rfl rfl rfl yf tok58 ?_)
 refine LO_nil ?_
 refine W_seq ?_
 refine W_seq (W_reg ?_)
 refine yR (ov_fieldAddr rfl rfl fa58_0 rfl) ?_
 refine yR (ov_load rfl rfl ye ⟨trivial, yn⟩ rfl rfl tok5) ?_
 refine yR (ov_neq rfl rfl rfl) ?_
 refine RO_nil ?_
 refine W_cond rfl (fun hc1 => ?_) (fun hc1 => ?_)
 ·
  refine W_seq (W_reg ?_)
  refine yA_ ?_
  refine RO_nil ?_
  refine W_ret ?_
  refine ⟨trivial, _, .row _ 55 moveT (list17 p) :: M, (ResV_tmp1 rfl rfl rfl), ?_, rfl⟩
  first | (rw [show list17 p = _ from if_pos hc1]; exact yb) | (rw [show list17 p = _ from if_neg (Bool.eq_false_iff.1 hc1)]; exact yb)
 ·
  refine W_skip ?_
  refine W_seq (W_regl fun w0 => ?_)
  refine yL (ov_load rfl rfl ye trivial rfl rfl tok31) ?_
  refine LO_l rfl (by decide : 10 < 11) (ol_call (v0 := []) (v2 := []) rfl rfl rfl Tryz.call44 (Con.mono (by apply c_ref17_Would <;> exact yz) ?_))
  rintro u5 _ rfl
  refine zA ?_
  refine LO_nil ?_
  refine W_ret ?_
  refine ⟨trivial, _, .row _ 55 moveT (list17 p) :: M, (ResV_tmp1 rfl rfl rfl), ?_, rfl⟩
  first | (rw [show list17 p = _ from if_pos hc1]; exact yb) | (rw [show list17 p = _ from if_neg (Bool.eq_false_iff.1 hc1)]; exact yb)
end Go.Kw
set_option linter.unusedVariables false
set_option linter.unusedSimpArgs false
namespace Go.Kw
open Go.Proofs
set_option maxRecDepth 20000 in
theorem eqt3_ (d : Nat) : EqT Tryz.prog (d + 1) 3 i64 := Tryz.underlying3
set_option maxRecDepth 20000 in
theorem eqt92_ (d : Nat) : EqT Tryz.prog (d + 2) 92 (.ar 2 i64) := eqt_ar (d := d + 1) Tryz.underlying92 rfl rfl tok3 (eqt3_ d)
set_option maxRecDepth 20000 in
theorem eqt92 : EqT Tryz.prog 6 92 (.ar 2 i64) := eqt92_ 4
theorem eqg92 : Tryz.prog.eqGuardType Tryz.prog.depth 92 = false := by kernel_rfl

def clsR (p : Pos) (i : Nat) : Nat := if kind (pb p (i : Int)) = 0 then 0 else if kind (pb p (i : Int)) = 6 then 1 else if kind (pb p (i : Int)) = 2 then 2 else if kind (pb p (i : Int)) = 3 then (if ((i : Int) / 8 + (i : Int) % 8) % 2 = 0 then 3 else 4) else 5
def cntF (f : Nat → Bool) : Nat → Int
  | 0 => 0
  | n + 1 => if f n = true then cntF f n + 1 else cntF f n
theorem cntF_y {f : Nat → Bool} {n : Nat} (h : f n = true) : cntF f (n + 1) = cntF f n + 1 := by rw [cntF, if_pos h]
theorem cntF_n {f : Nat → Bool} {n : Nat} (h : f n = false) : cntF f (n + 1) = cntF f n := by rw [cntF, if_neg xawy]
theorem cntF_rng (f : Nat → Bool) : ∀ n : Nat, 0 ≤ cntF f n ∧ cntF f n ≤ n
  | 0 => ⟨by show (0 : Int) ≤ 0; decide, by show (0 : Int) ≤ 0; decide⟩
  | n + 1 => by
    have := cntF_rng f n
    rw [cntF]; split <;> omega
def cntC (p : Pos) (c : Nat) (i : Nat) : Int := cntF (fun j => decide (clsR p j = c)) i
theorem cntC_rng (p : Pos) (c : Nat) (i : Nat) : 0 ≤ cntC p c i ∧ cntC p c i ≤ i := cntF_rng _ i
theorem cnt_y {p : Pos} {i c : Nat} (h : clsR p i = c) : cntC p c (i + 1) = cntC p c i + 1 := cntF_y (decide_eq_true h)
theorem cnt_n {p : Pos} {i c d : Nat} (h : clsR p i = c) (hn : ¬ c = d) : cntC p d (i + 1) = cntC p d i := cntF_n (decide_eq_false (by rw [h]; exact hn))
def kgF (p : Pos) (c : Int) (j : Nat) : Bool := decide (clsR p j = 1) && decide (pb p (j : Int) / 8 = c)
def kgL (p : Pos) (i : Nat) : List (El i64) := ([cntF (kgF p 0) i, cntF (kgF p 1) i] : List Int)
theorem kgL_wf (p : Pos) (i : Nat) : wf (.ar 2 i64) (kgL p i) := ⟨rfl, fun _ _ => trivial⟩
theorem kgL_rng (p : Pos) (i : Nat) (h : i ≤ 64) (c : Int) : 0 ≤ (show List Int from kgL p i).getD c.toNat 0 ∧ (show List Int from kgL p i).getD c.toNat 0 ≤ 64 := by
    have h0 := cntF_rng (kgF p 0) i
    have h1 := cntF_rng (kgF p 1) i
    generalize c.toNat = k
    match k with
    | 0 => exact ⟨h0.1, by show cntF (kgF p 0) i ≤ 64; omega⟩
    | 1 => exact ⟨h1.1, by show cntF (kgF p 1) i ≤ 64; omega⟩
    | k + 2 => exact ⟨by show (0 : Int) ≤ 0; decide, by show (0 : Int) ≤ 64; decide⟩
theorem king_col {p : Pos} (hp : POK p) (i : Nat) (h : kind (pb p (i : Int)) = 6) : pb p (i : Int) / 8 = 0 ∨ pb p (i : Int) / 8 = 1 := by
  have := hp.board i
  have e : pb p (i : Int) = (bd p).getD i 0 := rfl
  rw [e] at h ⊢
  unfold kind at h
  split at h
  · cases h
  · rename_i hc
    simp only [Bool.or_eq_true, decide_eq_true_eq] at hc
    omega
theorem kgL_n {p : Pos} {i c : Nat} (h : clsR p i = c) (hn : ¬ c = 1) : kgL p (i + 1) = kgL p i := by
  have e : ∀ x, kgF p x i = false := fun x => by unfold kgF; rw [h, decide_eq_false hn]; rfl
  show ([cntF (kgF p 0) (i + 1), cntF (kgF p 1) (i + 1)] : List Int) = _
  rw [cntF_n (e 0), cntF_n (e 1)]; rfl
theorem kgL_y {p : Pos} {i : Nat} (h : clsR p i = 1) (hc : pb p (i : Int) / 8 = 0 ∨ pb p (i : Int) / 8 = 1) : kgL p (i + 1) = (show List Int from kgL p i).set (pb p (i : Int) / 8).toNat ((show List Int from kgL p i).getD (pb p (i : Int) / 8).toNat 0 + 1) := by
  show ([cntF (kgF p 0) (i + 1), cntF (kgF p 1) (i + 1)] : List Int) = _
  rcases hc with e | e
  · rw [cntF_y (show kgF p 0 i = true by unfold kgF; rw [h, e]; rfl), cntF_n (show kgF p 1 i = false by unfold kgF; rw [h, e]; rfl), e]; rfl
  · rw [cntF_n (show kgF p 0 i = false by unfold kgF; rw [h, e]; rfl), cntF_y (show kgF p 1 i = true by unfold kgF; rw [h, e]; rfl), e]; rfl
def fewR (p : Pos) : Bool := decide (cntC p 5 64 = 0) && (decide ((cntC p 2 64 + cntC p 3 64) + cntC p 4 64 ≤ 1) || (decide (cntC p 2 64 = 0) && (decide (cntC p 3 64 = 0) || decide (cntC p 4 64 = 0))))
def oneR2 (p : Pos) : Bool := decide (((cntC p 5 64 + cntC p 2 64) + cntC p 3 64) + cntC p 4 64 = 0) && eqv (.ar 2 i64) (kgL p 64) ([1, 1] : List Int)
def matR (p : Pos) : Bool := if (decide (vr p = 0) || decide (vr p = 1)) = true then fewR p else if (decide (vr p = 3) || decide (vr p = 5)) = true then oneR2 p else false
theorem mat_a {a b : Bool} (h : a = true) : (a || b) = true := by rw [h]; rfl
theorem mat_d {a b : Bool} (h : a = false) : (a || b) = b := by rw [h]; rfl
def drawR (w : Int) : Res := ((3 : Int), w, ())
def mineR (p : Pos) : Int := if decide (tu p = 1) = true then 2 else 1
def othR (p : Pos) : Int := if decide (tu p = 1) = true then 1 else 2
def outX (p : Pos) : Res :=
  if (!thereR p) = true then zero resT
  else if (!decide ((wonR p).1 = 0)) = true then wonR p
  else if decide (((list17 p).length : Int) = 0) = true then
    (if decide (vr p = 4) = true then (mineR p, (8 : Int), ()) else if refCheck p (tu p) = true then (othR p, (1 : Int), ()) else drawR 2)
  else if matR p = true then drawR 3 else if decide (150 ≤ hf p) = true then drawR 4 else zero resT
theorem list17_len (p : Pos) : (list17 p).length ≤ 20900 := by
  unfold list17; split
  · exact Nat.zero_le _
  · exact wouldR_len p

theorem c_ref19_Material (p : Pos) (hp : POK p) (M : List Fact) : Pure Tryz.prog 59 [enc posT p] M (.bool (matR p)) := by
 have hb := hp.board
 have hpw := hp.wf
 have hvr := hp.vr
 have htu := hp.tu
 have hpg := hp.pg
 have hvr0 := hp.vr
 have htu0 := hp.tu
 simp only [vr] at hvr0
 simp only [tu] at htu0
 refine pure_of_W (n := 96) Tryz.func59 rfl rfl yn ?_
 refine W_seq (W_regl fun w0 => ?_)
 refine LO_l rfl (by decide : 1 < 96) (ol_box (t := posT) rfl rfl rfl yf (fun b1 => ?_))
 refine zA ?_
 refine LO_nil ?_
 refine W_seq (W_regl fun w0 => ?_)
 refine yL (ov_buildA (t := i64) (ds := []) rfl rfl bl92 trivial rfl) ?_
 refine LO_l rfl (by decide : 3 < 96) (ol_alloc (t := (.ar 2 i64)) rfl tok92 yf (fun b2 => ?_))
 refine LO_l rfl trivial (ol_sw0 rfl rfl rfl rfl yf tok92 ?_)
 refine LO_nil ?_
 refine W_seq (W_reg ?_)
 refine yA_ ?_
 refine yA_ ?_
 refine yA_ ?_
 refine yA_ ?_
 refine RO_nil ?_
 refine W_seq ?_
 refine W_seq (W_reg ?_)
 refine yA_ ?_
 refine RO_nil ?_
 refine W_block ?_
 refine W_loop (σ := Nat) (fun s5 => s5 ≤ 64) (fun s5 => [(1, ptrv b1 posT []), (3, ptrv b2 (.ar 2 i64) []), (4, .int .i64 (cntC p 2 s5)), (5, .int .i64 (cntC p 3 s5)), (6, .int .i64 (cntC p 4 s5)), (7, .int .i64 (cntC p 5 s5)), (8, .int .i64 (s5 : Int))]) (fun s5 => .box b2 92 (.ar 2 i64) (kgL p s5) :: .box b1 31 posT p :: M) (fun s5 => 64 - s5) (0) (by simp) ⟨rfl, rfl, rfl, rfl, rfl, rfl, rfl, trivial⟩ yb ?_
 rintro i hI
 refine W_seq ?_
 refine W_seq (W_reg ?_)
 refine yM ?_
 refine yR (ov_lss rfl rfl rfl) ?_
 refine RO_nil ?_
 refine W_cond rfl (fun hc1 => ?_) (fun hc1 => ?_)
 ·
  try simp only [yS] at hc1
  have hk0 := cntC_rng p 2 i
  have hk1 := cntC_rng p 3 i
  have hk2 := cntC_rng p 4 i
  have hk3 := cntC_rng p 5 i
  have hkw := kgL_wf p i
  refine W_skip ?_
  refine W_seq ?_
  refine W_block ?_
  refine W_seq (W_reg ?_)
  refine yM ?_
  refine yR (ov_fieldAddr rfl rfl fa31_1 rfl) ?_
  refine yR (ov_indexAddr rfl rfl rfl Tryz.underlying22 rfl Tryz.sizeOf5 ya ya) ?_
  refine yR (ov_load rfl rfl ye ⟨⟨trivial, yn⟩, (tn ya ya)⟩ rfl rfl tok5) ?_
  refine yP (yV rfl rfl rfl Tryz.call84 xaqy) ?_
  refine RO_nil ?_
  refine W_block ?_
  refine W_seq (W_reg ?_)
  refine yR (ov_eql rfl rfl rfl) ?_
  refine yA_ ?_
  refine RO_nil ?_
  refine W_cond rfl (fun hc2 => ?_) (fun hc2 => ?_)
  ·
   try simp only [yS] at hc2
   have hcl : clsR p i = 0 := if_pos hc2
   refine W_skip ?_
   refine W_reg ?_
   refine yM ?_
   refine yR (ov_add rfl rfl rfl ya) ?_
   refine yA_ ?_
   refine RO_nil ?_
   exact ⟨i + 1, yo, yo, ⟨rfl, rfl, xajy, xajy, xajy, xajy, rfl, trivial⟩, xaty⟩
  ·
   try simp only [yS] at hc2
   refine W_seq (W_reg ?_)
   refine yR (ov_eql rfl rfl rfl) ?_
   refine yA_ ?_
   refine RO_nil ?_
   refine W_cond rfl (fun hc3 => ?_) (fun hc3 => ?_)
   ·
    try simp only [yS] at hc3
    have hcl : clsR p i = 1 := (if_neg hc2).trans (if_pos hc3)
    have hcl2 := king_col hp i hc3
    have hcl3 : @Eq Int (@HDiv.hDiv Int Int Int _ (p.2.1.getD ((i : Nat) : Int).toNat (zero u8)) 8) 0 ∨ @Eq Int (@HDiv.hDiv Int Int Int _ (p.2.1.getD ((i : Nat) : Int).toNat (zero u8)) 8) 1 := hcl2
    have hkg := kgL_rng p i hI (pb p (i : Int) / 8)
    have hkg0 : @LE.le Int _ 0 ((kgL p i).getD (@HDiv.hDiv Int Int Int _ (p.2.1.getD ((i : Nat) : Int).toNat (zero u8)) 8).toNat (zero i64)) ∧ @LE.le Int _ ((kgL p i).getD (@HDiv.hDiv Int Int Int _ (p.2.1.getD ((i : Nat) : Int).toNat (zero u8)) 8).toNat (zero i64)) 64 := hkg
    refine W_regl (fun w0 => ?_)
    refine zM ?_
    refine yL (ov_fieldAddr rfl rfl fa31_1 rfl) ?_
    refine yL (ov_indexAddr rfl rfl rfl Tryz.underlying22 rfl Tryz.sizeOf5 ya ya) ?_
    refine yL (ov_load rfl rfl ye ⟨⟨trivial, yn⟩, (tn ya ya)⟩ rfl rfl tok5) ?_
    refine yQ (yV rfl rfl rfl Tryz.call131 (by apply c_ref08_Color <;> exact yz)) ?_
    refine yL (ov_indexAddr rfl rfl rfl Tryz.underlying92 rfl Tryz.sizeOf3 ya ya) ?_
    refine yL (ov_load rfl rfl ye ⟨trivial, (tn ya ya)⟩ rfl rfl tok3) ?_
    refine yL (ov_add rfl rfl rfl ya) ?_
    refine yL (ov_indexAddr rfl rfl rfl Tryz.underlying92 rfl Tryz.sizeOf3 ya ya) ?_
    refine LO_l rfl trivial (ol_st0 rfl rfl rfl ⟨trivial, (tn ya ya)⟩ rfl yf tok3 ?_)
    refine LO_nil ?_
    refine W_reg ?_
    refine yM ?_
    refine yR (ov_add rfl rfl rfl ya) ?_
    refine yA_ ?_
    refine RO_nil ?_
    exact ⟨i + 1, yo, yo, ⟨rfl, rfl, xajy, xajy, xajy, xajy, rfl, trivial⟩, xaty⟩
   ·
    try simp only [yS] at hc3
    refine W_seq (W_reg ?_)
    refine yR (ov_eql rfl rfl rfl) ?_
    refine yA_ ?_
    refine RO_nil ?_
    refine W_cond rfl (fun hc4 => ?_) (fun hc4 => ?_)
    ·
     try simp only [yS] at hc4
     have hcl : clsR p i = 2 := (if_neg hc2).trans ((if_neg hc3).trans (if_pos hc4))
     refine W_reg ?_
     refine yM ?_
     refine yR (ov_add rfl rfl rfl ya) ?_
     refine yA_ ?_
     refine RO_nil ?_
     refine W_reg ?_
     refine yM ?_
     refine yR (ov_add rfl rfl rfl ya) ?_
     refine yA_ ?_
     refine RO_nil ?_
     exact ⟨i + 1, yo, yo, ⟨rfl, rfl, xajy, xajy, xajy, xajy, rfl, trivial⟩, xaty⟩
    ·
     try simp only [yS] at hc4
     refine W_seq (W_reg ?_)
     refine yR (ov_eql rfl rfl rfl) ?_
     refine yA_ ?_
     refine RO_nil ?_
     refine W_cond rfl (fun hc5 => ?_) (fun hc5 => ?_)
     ·
      try simp only [yS] at hc5
      refine W_seq (W_reg ?_)
      refine yM ?_
      refine yR (ov_quo_pos rfl rfl rfl ya ya ya) ?_
      refine yM ?_
      refine yR (ov_rem_pos rfl rfl rfl ya ya) ?_
      refine yR (ov_add rfl rfl rfl ya) ?_
      refine yR (ov_rem_pos rfl rfl rfl ya ya) ?_
      refine yR (ov_eql rfl rfl rfl) ?_
      refine RO_nil ?_
      refine W_cond rfl (fun hc6 => ?_) (fun hc6 => ?_)
      ·
       try simp only [yS] at hc6
       have hcl : clsR p i = 3 := (if_neg hc2).trans ((if_neg hc3).trans ((if_neg hc4).trans ((if_pos hc5).trans (if_pos hc6))))
       refine W_reg ?_
       refine yM ?_
       refine yR (ov_add rfl rfl rfl ya) ?_
       refine yA_ ?_
       refine RO_nil ?_
       refine W_reg ?_
       refine yM ?_
       refine yR (ov_add rfl rfl rfl ya) ?_
       refine yA_ ?_
       refine RO_nil ?_
       exact ⟨i + 1, yo, yo, ⟨rfl, rfl, xajy, xajy, xajy, xajy, rfl, trivial⟩, xaty⟩
      ·
       try simp only [yS] at hc6
       have hcl : clsR p i = 4 := (if_neg hc2).trans ((if_neg hc3).trans ((if_neg hc4).trans ((if_pos hc5).trans (if_neg hc6))))
       refine W_reg ?_
       refine yM ?_
       refine yR (ov_add rfl rfl rfl ya) ?_
       refine yA_ ?_
       refine RO_nil ?_
       refine W_reg ?_
       refine yM ?_
       refine yR (ov_add rfl rfl rfl ya) ?_
       refine yA_ ?_
       refine RO_nil ?_
       exact ⟨i + 1, yo, yo, ⟨rfl, rfl, xajy, xajy, xajy, xajy, rfl, trivial⟩, xaty⟩
     ·
      try simp only [yS] at hc5
      have hcl : clsR p i = 5 := (if_neg hc2).trans ((if_neg hc3).trans ((if_neg hc4).trans (if_neg hc5)))
      refine W_reg ?_
      refine yM ?_
      refine yR (ov_add rfl rfl rfl ya) ?_
      refine yA_ ?_
      refine RO_nil ?_
      refine W_reg ?_
      refine yM ?_
      refine yR (ov_add rfl rfl rfl ya) ?_
      refine yA_ ?_
      refine RO_nil ?_
      exact ⟨i + 1, yo, yo, ⟨rfl, rfl, xajy, xajy, xajy, xajy, rfl, trivial⟩, xaty⟩
 ·
  try simp only [yS] at hc1
  have hi64 : i = 64 := by omega
  subst hi64
  have hk0 := cntC_rng p 2 64
  have hk1 := cntC_rng p 3 64
  have hk2 := cntC_rng p 4 64
  have hk3 := cntC_rng p 5 64
  have hkw := kgL_wf p 64
  refine W_exit ?_
  refine W_seq ?_
  refine W_seq (W_reg ?_)
  refine yR (ov_fieldAddr rfl rfl fa31_0 rfl) ?_
  refine yR (ov_load rfl rfl ye ⟨trivial, yn⟩ rfl rfl tok5) ?_
  refine RO_nil ?_
  refine W_block ?_
  refine W_cut [(3, ptrv b2 (.ar 2 i64) []), (4, .int .i64 (cntC p 2 64)), (5, .int .i64 (cntC p 3 64)), (6, .int .i64 (cntC p 4 64)), (7, .int .i64 (cntC p 5 64)), (53, .int .u8 (vr p)), (54, .bool (decide (vr p = 0) || decide (vr p = 1)))] (.box b2 92 (.ar 2 i64) (kgL p 64) :: .box b1 31 posT p :: M) ?_ ?_
  ·
   refine W_seq (W_reg ?_)
   refine yR (ov_eql rfl rfl rfl) ?_
   refine yA_ ?_
   refine RO_nil ?_
   refine W_cond rfl (fun hc7 => ?_) (fun hc7 => ?_)
   ·
    refine W_skip ?_
    exact ⟨⟨rfl, rfl, rfl, rfl, rfl, rfl, (by first | exact congrArg some (val_bool (hc7.trans (mat_a hc7).symm)) | exact congrArg some (val_bool (mat_d hc7).symm)), trivial⟩, yb⟩
   ·
    refine W_reg ?_
    refine yR (ov_eql rfl rfl rfl) ?_
    refine yA_ ?_
    refine RO_nil ?_
    exact ⟨⟨rfl, rfl, rfl, rfl, rfl, rfl, (by first | exact congrArg some (val_bool (hc7.trans (mat_a hc7).symm)) | exact congrArg some (val_bool (mat_d hc7).symm)), trivial⟩, yb⟩
  ·
   refine W_cond rfl (fun hc8 => ?_) (fun hc8 => ?_)
   ·
    refine W_seq (W_reg ?_)
    refine yM ?_
    refine yM ?_
    refine yR (ov_add rfl rfl rfl ya) ?_
    refine yM ?_
    refine yR (ov_add rfl rfl rfl ya) ?_
    refine yR (ov_leq rfl rfl rfl) ?_
    refine yA_ ?_
    refine RO_nil ?_
    refine W_seq (W_reg ?_)
    refine yM ?_
    refine yR (ov_eql rfl rfl rfl) ?_
    refine yM ?_
    refine yG (fun hg => OpX.v (ov_move rfl rfl)) ?_
    refine yG (fun hg => OpX.v (ov_move rfl (look_gv rfl (bq hg)))) ?_
    refine RO_g rfl rfl rfl rfl rfl yd (fun hg1 hg2 => OpX.v (ov_move rfl rfl)) ?_
    refine RO_g rfl rfl rfl rfl rfl yd (fun hg1 hg2 => OpX.v (ov_eql rfl (look_gv rfl (bq2 hg1 hg2)) rfl)) ?_
    refine RO_g rfl rfl rfl rfl rfl yd (fun hg1 hg2 => OpX.v (ov_move rfl (look_gv rfl (bq2 hg1 hg2)))) ?_
    refine RO_g rfl rfl rfl rfl rfl yd (fun hg1 hg2 => OpX.v (ov_move rfl rfl)) ?_
    refine RO_g rfl rfl rfl rfl rfl yd (fun hg1 hg2 => OpX.v (ov_eql rfl (look_gv rfl (bq2 hg1 hg2)) rfl)) ?_
    refine RO_g rfl rfl rfl rfl rfl yd (fun hg1 hg2 => OpX.v (ov_move rfl (look_gv rfl (bq2 hg1 hg2)))) ?_
    refine RO_g rfl rfl rfl rfl rfl yd (fun hg1 hg2 => OpX.v (ov_move rfl rfl)) ?_
    refine RO_g rfl rfl rfl rfl rfl yd (fun hg1 hg2 => OpX.v (ov_eql rfl (look_gv rfl (bq2 hg1 hg2)) rfl)) ?_
    refine RO_g rfl rfl rfl rfl rfl yd (fun hg1 hg2 => OpX.v (ov_or rfl (look_gv rfl (bq2 hg1 hg2)) rfl rfl (fun h => bq2 (bq2 hg1 hg2) h))) ?_
    refine RO_g rfl rfl rfl rfl rfl yd (fun hg1 hg2 => OpX.v (ov_and rfl (look_gv rfl (bq2 hg1 hg2)) rfl rfl (fun h => bq2 (bq2 hg1 hg2) h))) ?_
    refine yG (fun hg => OpX.v (ov_or rfl (look_gv rfl (bq hg)) rfl rfl (fun h => bq2 (bq hg) h))) ?_
    refine yR (ov_and rfl rfl rfl rfl (fun h => bq h)) ?_
    refine yA_ ?_
    refine RO_nil ?_
    refine W_ret ?_
    refine ⟨trivial, yb, (ResV_tmp1 rfl rfl ?_)⟩
    exact xccy
   ·
    refine W_cut [(3, ptrv b2 (.ar 2 i64) []), (4, .int .i64 (cntC p 2 64)), (5, .int .i64 (cntC p 3 64)), (6, .int .i64 (cntC p 4 64)), (7, .int .i64 (cntC p 5 64)), (80, .bool (decide (vr p = 3) || decide (vr p = 5)))] (.box b2 92 (.ar 2 i64) (kgL p 64) :: .box b1 31 posT p :: M) ?_ ?_
    ·
     refine W_seq (W_reg ?_)
     refine yR (ov_eql rfl rfl rfl) ?_
     refine yA_ ?_
     refine RO_nil ?_
     refine W_cond rfl (fun hc9 => ?_) (fun hc9 => ?_)
     ·
      refine W_skip ?_
      exact ⟨⟨rfl, rfl, rfl, rfl, rfl, (by first | exact congrArg some (val_bool (hc9.trans (mat_a hc9).symm)) | exact congrArg some (val_bool (mat_d hc9).symm)), trivial⟩, yb⟩
     ·
      refine W_reg ?_
      refine yR (ov_eql rfl rfl rfl) ?_
      refine yA_ ?_
      refine RO_nil ?_
      exact ⟨⟨rfl, rfl, rfl, rfl, rfl, (by first | exact congrArg some (val_bool (hc9.trans (mat_a hc9).symm)) | exact congrArg some (val_bool (mat_d hc9).symm)), trivial⟩, yb⟩
    ·
     refine W_cond rfl (fun hc10 => ?_) (fun hc10 => ?_)
     ·
      refine W_seq (W_reg ?_)
      refine yM ?_
      refine yM ?_
      refine yR (ov_add rfl rfl rfl ya) ?_
      refine yM ?_
      refine yR (ov_add rfl rfl rfl ya) ?_
      refine yM ?_
      refine yR (ov_add rfl rfl rfl ya) ?_
      refine yR (ov_eql rfl rfl rfl) ?_
      refine yM ?_
      refine yG (fun hg => OpX.v (ov_load rfl rfl ye trivial rfl rfl tok92)) ?_
      refine yG (fun hg => OpX.v (ov_buildA (t := i64) (ds := [(0, _), (1, _)]) rfl rfl bl92 ⟨yn, yf, ⟨yn, yf, trivial⟩⟩ rfl)) ?_
      refine yG (fun hg => OpX.v (ov_eqlA (t := (.ar 2 i64)) (d := 6) rfl (look_gv rfl (bq hg)) (look_gv rfl (bq hg)) rfl yn eqt92 eqg92 yf yf)) ?_
      refine yR (ov_and rfl rfl rfl rfl (fun h => bq h)) ?_
      refine yA_ ?_
      refine RO_nil ?_
      refine W_ret ?_
      refine ⟨trivial, yb, (ResV_tmp1 rfl rfl ?_)⟩
      exact xccy
     ·
      refine W_skip ?_
      refine W_seq (W_reg ?_)
      refine yA_ ?_
      refine RO_nil ?_
      refine W_ret ?_
      refine ⟨trivial, yb, (ResV_tmp1 rfl rfl ?_)⟩
      exact xccy

theorem c_ref19_Of (p : Pos) (hp : POK p) (M : List Fact) : Pure Tryz.prog 22 [enc posT p] M (enc resT (outX p)) := by
 have hb := hp.board
 have hpw := hp.wf
 have hvr := hp.vr
 have htu := hp.tu
 have hpg := hp.pg
 have hvr0 := hp.vr
 have htu0 := hp.tu
 simp only [vr] at hvr0
 simp only [tu] at htu0
 have hll := list17_len p
 refine pure_of_W (n := 43) Tryz.func22 rfl rfl yn ?_
 refine W_seq (W_regl fun w0 => ?_)
 refine LO_l rfl (by decide : 1 < 43) (ol_box (t := posT) rfl rfl rfl yf (fun b1 => ?_))
 refine LO_l rfl (by decide : 2 < 43) (ol_alloc (t := resT) rfl tok58 yf (fun b2 => ?_))
 refine LO_nil ?_
 refine W_seq ?_
 refine W_seq (W_reg ?_)
 refine yR (ov_load rfl rfl ye trivial rfl rfl tok31) ?_
 refine yP (yV rfl rfl rfl Tryz.call23 (by apply c_ref13_There <;> exact yz)) ?_
 refine yR (ov_not rfl rfl) ?_
 refine RO_nil ?_
 refine W_cond rfl (fun hc1 => ?_) (fun hc1 => ?_)
 ·
  refine W_seq (W_regl fun w0 => ?_)
  refine yL (ov_build (fs := fs57) (ds := []) rfl rfl bl58 trivial rfl) ?_
  refine LO_l rfl trivial (ol_sw0 rfl rfl rfl rfl yf tok58 ?_)
  refine LO_nil ?_
  refine W_ret ?_
  refine ⟨trivial, yb, (ResV_cell rfl rfl ye rfl tok58 ?_)⟩
  exact xcdy
 ·
  have ht1 : tu p ≤ 1 := there_tu hc1
  have ht2 := ht1
  simp only [tu] at ht2
  refine W_skip ?_
  refine W_seq (W_regl fun w0 => ?_)
  refine yL (ov_load rfl rfl ye trivial rfl rfl tok31) ?_
  refine yQ (yV rfl rfl rfl Tryz.call43 (by apply c_ref17_Won <;> exact yz)) ?_
  refine LO_l rfl (by decide : 3 < 43) (ol_alloc (t := resT) rfl tok58 yf (fun b3 => ?_))
  refine LO_l rfl trivial (ol_sw0 rfl rfl rfl rfl yf tok58 ?_)
  refine LO_nil ?_
  refine W_seq ?_
  refine W_seq (W_reg ?_)
  refine yR (ov_fieldAddr rfl rfl fa58_0 rfl) ?_
  refine yR (ov_load rfl rfl ye ⟨trivial, yn⟩ rfl rfl tok5) ?_
  refine yR (ov_neq rfl rfl rfl) ?_
  refine RO_nil ?_
  refine W_cond rfl (fun hc2 => ?_) (fun hc2 => ?_)
  ·
   refine W_seq (W_regl fun w0 => ?_)
   refine yL (ov_load rfl rfl ye trivial rfl rfl tok58) ?_
   refine LO_l rfl trivial (ol_sw1 rfl rfl rfl rfl yf tok58 ?_)
   refine LO_nil ?_
   refine W_ret ?_
   refine ⟨trivial, yb, (ResV_cell rfl rfl ye rfl tok58 ?_)⟩
   exact xcdy
  ·
   refine W_skip ?_
   refine W_seq ?_
   refine W_seq (W_regl fun w0 => ?_)
   refine yL (ov_load rfl rfl ye trivial rfl rfl tok31) ?_
   refine LO_l rfl (by decide : 17 < 43) (ol_call (v0 := []) (v2 := []) rfl rfl rfl Tryz.call18 (Con.mono (by apply c_ref17_List <;> exact yz) ?_))
   rintro u5 _ rfl
   refine yL (ov_len rfl rfl xaby Tryz.underlying48) ?_
   refine yL (ov_eql rfl rfl rfl) ?_
   refine LO_nil ?_
   refine W_cond rfl (fun hc3 => ?_) (fun hc3 => ?_)
   ·
    refine W_seq (W_reg ?_)
    refine yA_ ?_
    refine yA_ ?_
    refine RO_nil ?_
    refine W_cut [(1, ptrv b1 posT []), (2, ptrv b2 resT []), (4, .int .u8 (mineR p)), (5, .int .u8 (othR p))] (.row u5 55 moveT (list17 p) :: .box b3 58 resT (wonR p) :: .box b2 58 resT (zero resT) :: .box b1 31 posT p :: M) ?_ ?_
    ·
     refine W_seq (W_reg ?_)
     refine yR (ov_fieldAddr rfl rfl fa31_4 rfl) ?_
     refine yR (ov_load rfl rfl ye ⟨trivial, yn⟩ rfl rfl tok5) ?_
     refine yR (ov_eql rfl rfl rfl) ?_
     refine RO_nil ?_
     refine W_cond rfl (fun hc4 => ?_) (fun hc4 => ?_)
     ·
      refine W_seq (W_reg ?_)
      refine yA_ ?_
      refine RO_nil ?_
      refine W_reg ?_
      refine yA_ ?_
      refine RO_nil ?_
      exact ⟨⟨rfl, rfl, (by first | exact congrArg some (val_u8 (show mineR p = _ from if_pos hc4).symm) | exact congrArg some (val_u8 (show mineR p = _ from if_neg (Bool.eq_false_iff.1 hc4)).symm)), (by first | exact congrArg some (val_u8 (show othR p = _ from if_pos hc4).symm) | exact congrArg some (val_u8 (show othR p = _ from if_neg (Bool.eq_false_iff.1 hc4)).symm)), trivial⟩, yb⟩
     ·
      refine W_skip ?_
      exact ⟨⟨rfl, rfl, (by first | exact congrArg some (val_u8 (show mineR p = _ from if_pos hc4).symm) | exact congrArg some (val_u8 (show mineR p = _ from if_neg (Bool.eq_false_iff.1 hc4)).symm)), (by first | exact congrArg some (val_u8 (show othR p = _ from if_pos hc4).symm) | exact congrArg some (val_u8 (show othR p = _ from if_neg (Bool.eq_false_iff.1 hc4)).symm)), trivial⟩, yb⟩
    ·
     refine W_seq ?_
     refine W_seq (W_reg ?_)
     refine yR (ov_fieldAddr rfl rfl fa31_0 rfl) ?_
     refine yR (ov_load rfl rfl ye ⟨trivial, yn⟩ rfl rfl tok5) ?_
     refine yR (ov_eql rfl rfl rfl) ?_
     refine RO_nil ?_
     refine W_cond rfl (fun hc5 => ?_) (fun hc5 => ?_)
     ·
      refine W_seq (W_regl fun w0 => ?_)
      refine zM ?_
      refine yL (ov_build (fs := fs57) (ds := [⟨0, _⟩, ⟨1, _⟩]) rfl rfl bl58 ⟨yn, yf, ⟨yn, yf, trivial⟩⟩ rfl) ?_
      refine LO_l rfl trivial (ol_sw2 rfl rfl rfl rfl yf tok58 ?_)
      refine LO_nil ?_
      refine W_ret ?_
      refine ⟨trivial, yb, (ResV_cell rfl rfl ye rfl tok58 ?_)⟩
      exact xcdy
     ·
      refine W_skip ?_
      refine W_seq ?_
      refine W_seq (W_reg ?_)
      refine yR (ov_load rfl rfl ye trivial rfl rfl tok31) ?_
      refine yR (ov_fieldAddr rfl rfl fa31_4 rfl) ?_
      refine yR (ov_load rfl rfl ye ⟨trivial, yn⟩ rfl rfl tok5) ?_
      refine yP (yV rfl rfl rfl Tryz.call58 (by apply c_ref08_Check <;> exact yz)) ?_
      refine RO_nil ?_
      refine W_cond rfl (fun hc6 => ?_) (fun hc6 => ?_)
      ·
       refine W_seq (W_regl fun w0 => ?_)
       refine zM ?_
       refine yL (ov_build (fs := fs57) (ds := [⟨0, _⟩, ⟨1, _⟩]) rfl rfl bl58 ⟨yn, yf, ⟨yn, yf, trivial⟩⟩ rfl) ?_
       refine LO_l rfl trivial (ol_sw2 rfl rfl rfl rfl yf tok58 ?_)
       refine LO_nil ?_
       refine W_ret ?_
       refine ⟨trivial, yb, (ResV_cell rfl rfl ye rfl tok58 ?_)⟩
       exact xcdy
      ·
       refine W_skip ?_
       refine W_seq (W_regl fun w0 => ?_)
       refine yL (ov_build (fs := fs57) (ds := [⟨0, _⟩, ⟨1, _⟩]) rfl rfl bl58 ⟨yn, yf, ⟨yn, yf, trivial⟩⟩ rfl) ?_
       refine LO_l rfl trivial (ol_sw2 rfl rfl rfl rfl yf tok58 ?_)
       refine LO_nil ?_
       refine W_ret ?_
       refine ⟨trivial, yb, (ResV_cell rfl rfl ye rfl tok58 ?_)⟩
       exact xcdy
   ·
    refine W_skip ?_
    refine W_seq ?_
    refine W_seq (W_reg ?_)
    refine yR (ov_load rfl rfl ye trivial rfl rfl tok31) ?_
    refine yP (yV rfl rfl rfl Tryz.call59 (by apply c_ref19_Material <;> exact yz)) ?_
    refine RO_nil ?_
    refine W_cond rfl (fun hc7 => ?_) (fun hc7 => ?_)
    ·
     refine W_seq (W_regl fun w0 => ?_)
     refine yL (ov_build (fs := fs57) (ds := [⟨0, _⟩, ⟨1, _⟩]) rfl rfl bl58 ⟨yn, yf, ⟨yn, yf, trivial⟩⟩ rfl) ?_
     refine LO_l rfl trivial (ol_sw2 rfl rfl rfl rfl yf tok58 ?_)
     refine LO_nil ?_
     refine W_ret ?_
     refine ⟨trivial, yb, (ResV_cell rfl rfl ye rfl tok58 ?_)⟩
     exact xcdy
    ·
     refine W_skip ?_
     refine W_seq ?_
     refine W_seq (W_reg ?_)
     refine yR (ov_fieldAddr rfl rfl fa31_8 rfl) ?_
     refine yR (ov_load rfl rfl ye ⟨trivial, yn⟩ rfl rfl tok3) ?_
     refine yR (ov_geq rfl rfl rfl) ?_
     refine RO_nil ?_
     refine W_cond rfl (fun hc8 => ?_) (fun hc8 => ?_)
     ·
      refine W_seq (W_regl fun w0 => ?_)
      refine yL (ov_build (fs := fs57) (ds := [⟨0, _⟩, ⟨1, _⟩]) rfl rfl bl58 ⟨yn, yf, ⟨yn, yf, trivial⟩⟩ rfl) ?_
      refine LO_l rfl trivial (ol_sw2 rfl rfl rfl rfl yf tok58 ?_)
      refine LO_nil ?_
      refine W_ret ?_
      refine ⟨trivial, yb, (ResV_cell rfl rfl ye rfl tok58 ?_)⟩
      exact xcdy
     ·
      refine W_skip ?_
      refine W_seq (W_regl fun w0 => ?_)
      refine yL (ov_build (fs := fs57) (ds := []) rfl rfl bl58 trivial rfl) ?_
      refine LO_l rfl trivial (ol_sw2 rfl rfl rfl rfl yf tok58 ?_)
      refine LO_nil ?_
      refine W_ret ?_
      refine ⟨trivial, yb, (ResV_cell rfl rfl ye rfl tok58 ?_)⟩
      exact xcdy
end Go.Kw
set_option linter.unusedVariables false
set_option linter.unusedSimpArgs false
namespace Go.Kw
open Go.Proofs
set_option maxRecDepth 20000 in
theorem ap46 : AppOK Tryz.prog 46 31 posT 120 := ⟨⟨_, Tryz.underlying46, rfl, rfl, rfl, rfl⟩, by decide⟩

def stR (p : Pos) : List Pos := if (!decide ((outX p).1 = 0)) = true then [] else (list17 p).map (madeR p)
def nextR (qs : List (El posT)) : List (El posT) := (show List Pos from qs).flatMap stR
def nI (qs : List (El posT)) (i : Nat) : List (El posT) := ((show List Pos from qs).take i).flatMap stR
abbrev qI (qs : List (El posT)) (i : Nat) : Pos := qs.getD ((i : Nat) : Int).toNat (zero posT)
def nJ (qs : List (El posT)) (i kq : Nat) : List (El posT) := List.append (nI qs i) (((list17 (qI qs i)).take kq).map (madeR (qI qs i)))
theorem flatP_take {α β : Type} (f : α → List β) (d : α) (l : List α) {i : Nat} (h : i < l.length) : (l.take (i + 1)).flatMap f = (l.take i).flatMap f ++ f (l.getD i d) := by
  rw [List.take_add_one, List.getElem?_eq_getElem h, List.flatMap_append, List.getD_eq_getElem?_getD, List.getElem?_eq_getElem h]; simp
theorem flatP_len {α β : Type} (f : α → List β) (l : List α) (i : Nat) : ((l.take i).flatMap f).length ≤ (l.flatMap f).length := by
  have h : l.flatMap f = (l.take i).flatMap f ++ (l.drop i).flatMap f := by rw [← List.flatMap_append, List.take_append_drop]
  rw [h, List.length_append]; omega
theorem nI_next (qs : List (El posT)) (i : Nat) (h : i < qs.length) : nI qs (i + 1) = List.append (nI qs i) (stR (qI qs i)) := flatP_take stR (zero posT) (show List Pos from qs) h
theorem nI_no (qs : List (El posT)) (i : Nat) (h : (!decide ((outX (qI qs i)).1 = 0)) = true) (hi : i < qs.length) : nI qs (i + 1) = nI qs i := by
  rw [nI_next qs i hi, stR, if_pos h]; exact List.append_nil _
theorem nI_all (qs : List (El posT)) (i kq : Nat) (h : (!decide ((outX (qI qs i)).1 = 0)) = false) (hi : i < qs.length) (hk : (list17 (qI qs i)).length ≤ kq) : nI qs (i + 1) = nJ qs i kq := by
  rw [nI_next qs i hi, stR, if_neg xawy, nJ, List.take_of_length_le hk]
theorem nJ_0 (qs : List (El posT)) (i : Nat) : nJ qs i 0 = nI qs i := List.append_nil _
theorem nJ_next (qs : List (El posT)) (i kq : Nat) (h : kq < (list17 (qI qs i)).length) : nJ qs i (kq + 1) = nJ qs i kq ++ [madeR (qI qs i) ((list17 (qI qs i)).getD ((kq : Nat) : Int).toNat (zero moveT))] := by
  have key : ∀ (l : List Mv) (A : List Pos) (f : Mv → Pos), kq < l.length → A ++ (l.take (kq + 1)).map f = (A ++ (l.take kq).map f) ++ [f (l.getD kq (zero moveT))] := fun l A f hl => by
    rw [List.getD_eq_getElem?_getD, List.getElem?_eq_getElem hl, List.append_assoc, List.map_take, List.map_take, List.take_add_one, List.getElem?_map, List.getElem?_eq_getElem hl]; rfl
  exact key _ (nI qs i) _ h
theorem nI_end (qs : List (El posT)) (i : Nat) (h : qs.length ≤ i) : nextR qs = nI qs i := by
  unfold nI nextR; rw [List.take_of_length_le h]
theorem nJ_len (qs : List (El posT)) (i kq : Nat) (hb : (nextR qs).length ≤ 1000000) (hi : i < qs.length) (h : (!decide ((outX (qI qs i)).1 = 0)) = false) : (nJ qs i kq).length ≤ 1000000 := by
  have h1 : (nI qs (i + 1)).length ≤ (nextR qs).length := flatP_len stR (show List Pos from qs) (i + 1)
  rw [nI_next qs i hi, stR, if_neg xawy] at h1
  have h2 : ((list17 (qI qs i)).take kq).length ≤ (list17 (qI qs i)).length := List.length_take_le' _ _
  have h3 : (List.append (nI qs i) ((list17 (qI qs i)).map (madeR (qI qs i)))).length = (nI qs i).length + (list17 (qI qs i)).length := by
    rw [List.append_eq, List.length_append, List.length_map]
  have h4 : (nJ qs i kq).length = (nI qs i).length + ((list17 (qI qs i)).take kq).length := by
    unfold nJ; rw [List.append_eq, List.length_append, List.length_map]
  omega
theorem q_ok {qs : List (El posT)} (h : ∀ x ∈ (show List Pos from qs), POK x) {i : Nat} (hi : i < qs.length) : POK (qI qs i) := by
  have key : ∀ l : List Pos, i < l.length → l.getD i (zero posT) ∈ l := fun l hl => by
    rw [List.getD_eq_getElem?_getD, List.getElem?_eq_getElem hl]; exact List.getElem_mem hl
  exact h _ (key _ hi)
theorem list17_mem {p : Pos} {m : Mv} (h : m ∈ list17 p) : m ∈ allR p := by
  unfold list17 at h; split at h
  · cases h
  · exact wouldR_mem h
theorem list17_ok {p : Pos} (hp : POK p) {i : Nat} (hi : i < (list17 p).length) : MOK ((list17 p).getD ((i : Nat) : Int).toNat (zero moveT)) ∧ LMv p ((list17 p).getD ((i : Nat) : Int).toNat (zero moveT)) := by
  have key : ∀ l : List Mv, i < l.length → l.getD i (zero moveT) ∈ l := fun l hl => by
    rw [List.getD_eq_getElem?_getD, List.getElem?_eq_getElem hl]; exact List.getElem_mem hl
  exact allR_mem hp (list17_mem (key _ hi))
theorem stR_ok {p : Pos} (hp : POK p) {q : Pos} (h : q ∈ stR p) : POK q := by
  unfold stR at h; split at h
  · cases h
  · obtain ⟨m, hm, rfl⟩ := List.mem_map.1 h
    have := allR_mem hp (list17_mem hm)
    exact POK_madeR hp this.1 this.2
def lvR : Nat → Pos → List (El posT)
  | 0, p => [p]
  | n + 1, p => nextR (lvR n p)
theorem lvR_ok {p : Pos} (hp : POK p) : ∀ n, ∀ x ∈ (show List Pos from lvR n p), POK x
  | 0, x, h => by
    have : x = p := List.mem_singleton.1 h
    rw [this]; exact hp
  | n + 1, x, h => by
    obtain ⟨y, hy, hx⟩ := List.mem_flatMap.1 h
    exact stR_ok (lvR_ok hp n y hy) hx
def talX (l : List (El i64)) (q : Pos) : List (El i64) := (show List Int from l).set (outX q).1.toNat (gAt l (outX q).1.toNat + 1)
def tallyX (qs : List (El posT)) : List (El i64) := (show List Pos from qs).foldl talX (zero (.ar 4 i64))
def tlR (qs : List (El posT)) (i : Nat) : List (El i64) := ((show List Pos from qs).take i).foldl talX (zero (.ar 4 i64))
theorem tlR_next (qs : List (El posT)) (i : Nat) (h : i < qs.length) : tlR qs (i + 1) = talX (tlR qs i) (qI qs i) := by
  have key : ∀ l : List Pos, i < l.length → (l.take (i + 1)).foldl talX (zero (.ar 4 i64)) = talX ((l.take i).foldl talX (zero (.ar 4 i64))) (l.getD i (zero posT)) := fun l hl => by
    rw [List.take_add_one, List.getElem?_eq_getElem hl, List.foldl_append, List.getD_eq_getElem?_getD, List.getElem?_eq_getElem hl]; rfl
  exact key _ h
theorem tlR_all (qs : List (El posT)) (i : Nat) (h : qs.length ≤ i) : tallyX qs = tlR qs i := by
  unfold tlR tallyX; rw [List.take_of_length_le h]
theorem talX_len {l : List (El i64)} (q : Pos) (h : l.length = 4) : (talX l q).length = 4 := by
  unfold talX; rw [List.length_set]; exact h
theorem tlR_len (qs : List (El posT)) (i : Nat) : (tlR qs i).length = 4 := by
  have key : ∀ (qs : List Pos) (l : List (El i64)), l.length = 4 → (qs.foldl talX l).length = 4 := by
    intro qs
    induction qs with
    | nil => exact fun l h => h
    | cons q qs ih => exact fun l h => ih _ (talX_len q h)
  exact key _ _ rfl
theorem talX_at (l : List (El i64)) (q : Pos) (i : Nat) : gAt (talX l q) i = gAt l i ∨ gAt (talX l q) i = gAt l i + 1 := by
  have key : ∀ (l : List Int) (k : Nat), (l.set k (l.getD k 0 + 1)).getD i 0 = l.getD i 0 ∨ (l.set k (l.getD k 0 + 1)).getD i 0 = l.getD i 0 + 1 := fun l k => by
    by_cases h : k = i
    · subst h
      by_cases hl : k < l.length
      · right; rw [List.getD_eq_getElem?_getD, List.getElem?_set_self hl]; rfl
      · left; rw [List.set_eq_of_length_le yo]
    · left; rw [List.getD_eq_getElem?_getD, List.getElem?_set_ne h, ← List.getD_eq_getElem?_getD]
  exact key l (outX q).1.toNat
theorem tlR_rng (qs : List (El posT)) (k : Nat) (h : k ≤ 1000000) (i : Nat) : 0 ≤ gAt (tlR qs k) i ∧ gAt (tlR qs k) i ≤ 1000000 := by
  have key : ∀ (qs : List Pos) (l : List (El i64)), gAt l i ≤ gAt (qs.foldl talX l) i ∧ gAt (qs.foldl talX l) i ≤ gAt l i + qs.length := by
    intro qs
    induction qs with
    | nil => exact fun l => ⟨Int.le_refl _, by simp⟩
    | cons q qs ih =>
      intro l
      have h1 := ih (talX l q)
      have h2 := talX_at l q i
      simp only [List.foldl_cons, List.length_cons]
      omega
  have h1 := key ((show List Pos from qs).take k) (zero (.ar 4 i64))
  have h0 : gAt (zero (.ar 4 i64)) i = 0 := by
    show (List.replicate 4 (0 : Int)).getD i 0 = 0
    rw [List.getD_eq_getElem?_getD, List.getElem?_replicate]; split <;> rfl
  have h2 : ((show List Pos from qs).take k).length ≤ k := List.length_take_le _ _
  rw [h0] at h1
  unfold tlR; omega
theorem winR_state (c w : Int) : 0 ≤ (show Int from (winR c w).1) ∧ (show Int from (winR c w).1) ≤ 3 := by
  unfold winR; split
  · exact ⟨by show (0 : Int) ≤ 1; decide, by show (1 : Int) ≤ 3; decide⟩
  · exact ⟨by show (0 : Int) ≤ 2; decide, by show (2 : Int) ≤ 3; decide⟩
theorem drawR_state (w : Int) : 0 ≤ (show Int from (drawR w).1) ∧ (show Int from (drawR w).1) ≤ 3 := ⟨by show (0 : Int) ≤ 3; decide, by show (3 : Int) ≤ 3; decide⟩
def SPr (r : Res) : Prop := 0 ≤ (show Int from r.1) ∧ (show Int from r.1) ≤ 3
theorem sp_ite {c : Prop} [Decidable c] {a b : Res} (ha : SPr a) (hb : SPr b) : SPr (if c then a else b) := by
  split
  · exact ha
  · exact hb
theorem wonR_state (p : Pos) : SPr (wonR p) := by
  have h3 : ∀ w : Int, SPr ((3 : Int), w, ()) := fun w => ⟨by show (0 : Int) ≤ 3; decide, by show (3 : Int) ≤ 3; decide⟩
  unfold wonR racR
  repeat' (first | exact zero_state | exact winR_state _ _ | exact h3 _ | refine sp_ite ?_ ?_)
theorem outX_state {p : Pos} (hp : POK p) : SPr (outX p) := by
  have hm : ∀ w : Int, SPr (mineR p, w, ()) := fun w => by show 0 ≤ mineR p ∧ mineR p ≤ 3; unfold mineR; split <;> decide
  have ho : ∀ w : Int, SPr (othR p, w, ()) := fun w => by show 0 ≤ othR p ∧ othR p ≤ 3; unfold othR; split <;> decide
  unfold outX
  repeat' (first | exact zero_state | exact wonR_state _ | exact drawR_state _ | exact hm _ | exact ho _ | refine sp_ite ?_ ?_)
def wideR (p : Pos) : Bool := if (!thereR p) = true then false else decide (1500 < ((allR p).length : Int) * ((allR (setPg (setTu p (1 - tu p)) (-1))).length : Int))
theorem mul_rng {a b : Nat} (ha : a ≤ 20900) (hb : b ≤ 20900) : rng .i64 ((a : Int) * (b : Int)) := by
  have h : a * b ≤ 20900 * 20900 := Nat.mul_le_mul ha hb
  have e : ((a : Int) * (b : Int)) = ((a * b : Nat) : Int) := (Int.natCast_mul a b).symm
  simp only [rng]; omega

theorem c_ref22_Next (v : Value) (qs : List (El posT)) (M : List Fact) (hl : HasList M v posT qs) (hok : ∀ x ∈ (show List Pos from qs), POK x) (hln : qs.length ≤ 1000000) (hbn : (nextR qs).length ≤ 1000000) : Con Tryz.prog 29 [v] M (fun u M' => M' = .row u 31 posT (nextR qs) :: M) := by
 refine con_of_W (n := 48) Tryz.func29 rfl rfl yn ?_
 refine W_seq ?_
 refine W_row 31 posT ?_
 refine W_reg ?_
 refine yA_ ?_
 refine RO_nil ?_
 refine W_seq (W_reg ?_)
 refine yA_ ?_
 refine RO_nil ?_
 refine W_seq ?_
 refine W_seq (W_reg ?_)
 refine yA_ ?_
 refine RO_nil ?_
 refine W_block ?_
 refine W_loop (σ := Nat × Value) (fun s => s.1 ≤ qs.length) (fun s => [(0, v), (4, .int .i64 (s.1 : Int)), (3, s.2)]) (fun s => .row s.2 31 posT (nI qs s.1) :: M) (fun s => qs.length - s.1) ((0, .slice none 0 0)) (by simp) ⟨rfl, rfl, rfl, trivial⟩ yb ?_
 rintro ⟨i, v3⟩ hI
 simp only at hI
 refine W_seq ?_
 refine W_seq (W_reg ?_)
 refine yM ?_
 refine yM ?_
 refine yR (ov_len rfl rfl xaby Tryz.underlying46) ?_
 refine yR (ov_lss rfl rfl rfl) ?_
 refine RO_nil ?_
 refine W_cond rfl (fun hc1 => ?_) (fun hc1 => ?_)
 ·
  try simp only [yS] at hc1
  have hpx := q_ok hok (i := i) yo
  have hwx := hpx.wf
  refine W_skip ?_
  refine W_seq ?_
  refine W_block ?_
  refine W_seq (W_regl fun w0 => ?_)
  refine zM ?_
  refine zM ?_
  refine yL (ov_indexAddr_sl (t := posT) rfl rfl xaby rfl Tryz.underlying46 Tryz.sizeOf31 ya ya) ?_
  refine yL (ov_load_e (t := posT) (p := []) rfl rfl xaby ya trivial rfl rfl tok31) ?_
  refine yQ (yV rfl rfl rfl Tryz.call22 (c_ref19_Of (qs.getD ((i : Nat) : Int).toNat (zero posT)) hpx _)) ?_
  refine LO_l rfl (by decide : 5 < 48) (ol_alloc (t := resT) rfl tok58 yf (fun b1 => ?_))
  refine LO_l rfl trivial (ol_sw0 rfl rfl rfl rfl yf tok58 ?_)
  refine LO_nil ?_
  refine W_seq ?_
  refine W_seq (W_reg ?_)
  refine yR (ov_fieldAddr rfl rfl fa58_0 rfl) ?_
  refine yR (ov_load rfl rfl ye ⟨trivial, yn⟩ rfl rfl tok5) ?_
  refine yR (ov_neq rfl rfl rfl) ?_
  refine RO_nil ?_
  refine W_cond rfl (fun hc2 => ?_) (fun hc2 => ?_)
  ·
   refine W_exit ?_
   refine W_reg ?_
   refine yM ?_
   refine yR (ov_add rfl rfl rfl ya) ?_
   refine yA_ ?_
   refine RO_nil ?_
   exact ⟨(i + 1, _), xaly, xaly, ⟨rfl, rfl, rfl, trivial⟩, (by first | (rw [nI_no qs i hc2 yo]; exact yb) | (rw [nI_all qs i kq hc2 yo (Int.ofNat_le.1 hc3)]; exact yb))⟩
  ·
   have hll := list17_len (qs.getD ((i : Nat) : Int).toNat (zero posT))
   refine W_skip ?_
   refine W_seq (W_regl fun w0 => ?_)
   refine zM ?_
   refine zM ?_
   refine yL (ov_indexAddr_sl (t := posT) rfl rfl xaby rfl Tryz.underlying46 Tryz.sizeOf31 ya ya) ?_
   refine yL (ov_load_e (t := posT) (p := []) rfl rfl xaby ya trivial rfl rfl tok31) ?_
   refine LO_l rfl (by decide : 27 < 48) (ol_call (v0 := []) (v2 := []) rfl rfl rfl Tryz.call18 (Con.mono (c_ref17_List (qs.getD ((i : Nat) : Int).toNat (zero posT)) hpx _) ?_))
   rintro u5 _ rfl
   refine zA ?_
   refine LO_nil ?_
   refine W_seq (W_reg ?_)
   refine yA_ ?_
   refine RO_nil ?_
   refine W_block ?_
   refine W_loop (σ := Nat × Value) (fun s => s.1 ≤ (list17 (qs.getD ((i : Nat) : Int).toNat (zero posT))).length) (fun s => [(0, v), (4, .int .i64 (i : Int)), (6, u5), (7, .int .i64 (s.1 : Int)), (3, s.2)]) (fun s => .row u5 55 moveT (list17 (qs.getD ((i : Nat) : Int).toNat (zero posT))) :: .row s.2 31 posT (nJ qs i s.1) :: M) (fun s => (list17 (qs.getD ((i : Nat) : Int).toNat (zero posT))).length - s.1) ((0, v3)) (by simp) ⟨rfl, rfl, rfl, rfl, rfl, trivial⟩ (by show List.Sublist (_ :: Fact.row v3 31 posT (nJ qs i 0) :: _) _; rw [nJ_0]; exact yb) ?_
   rintro ⟨kq, v4⟩ hK
   simp only at hK
   refine W_seq ?_
   refine W_seq (W_reg ?_)
   refine yM ?_
   refine yM ?_
   refine yR (ov_len rfl rfl xaby Tryz.underlying48) ?_
   refine yR (ov_lss rfl rfl rfl) ?_
   refine RO_nil ?_
   refine W_cond rfl (fun hc3 => ?_) (fun hc3 => ?_)
   ·
    try simp only [yS] at hc3
    have hmm := list17_ok hpx (i := kq) (Int.ofNat_lt.1 hc3)
    have hmd := (POK_madeR hpx hmm.1 hmm.2).wf
    have hnl := nJ_len qs i kq hbn yo hc2
    refine W_skip ?_
    refine W_seq ?_
    refine W_block ?_
    refine W_seq ?_
    refine W_regD (fun i => !Nat.beq i 10) mixed (fun w0 => ?_)
    refine D_mem0 (i := 0) rfl yk yk rfl rfl yd (ov_move rfl rfl) ?_
    refine D_mem0 (i := 1) rfl yk yk rfl rfl yd (ov_move rfl rfl) ?_
    refine D_mem0 (i := 2) rfl yk yk rfl rfl yd (ov_indexAddr_sl (t := posT) rfl rfl xaby rfl Tryz.underlying46 Tryz.sizeOf31 ya ya) ?_
    refine D_mem0 (i := 3) rfl yk yk rfl rfl yd (ov_load_e (t := posT) (p := []) rfl rfl xaby ya trivial rfl rfl tok31) ?_
    refine D_mem0 (i := 4) rfl yk yk rfl rfl yd (ov_move rfl rfl) ?_
    refine D_mem0 (i := 5) rfl yk yk rfl rfl yd (ov_move rfl rfl) ?_
    refine D_mem0 (i := 6) rfl yk yk rfl rfl yd (ov_indexAddr_sl (t := moveT) rfl rfl xaby rfl Tryz.underlying48 Tryz.sizeOf55 ya ya) ?_
    refine D_mem0 (i := 7) rfl yk yk rfl rfl yd (ov_load_e (t := moveT) (p := []) rfl rfl xaby ya trivial rfl rfl tok55) ?_
    refine D_two (i := 8) (j := 9) rfl rfl yk rfl rfl (by decide : 42 < 48) (by decide : 8 < 48) ((OpL_two (yV rfl rfl rfl Tryz.call56 (c_ref16_Made (qs.getD ((i : Nat) : Int).toNat (zero posT)) hpx ((list17 (qs.getD ((i : Nat) : Int).toNat (zero posT))).getD ((kq : Nat) : Int).toNat (zero moveT)) hmm.1 _ hmm.2)) ⟨xaay, ?_⟩)) (ol_alloc (t := posT) rfl tok31 yf (fun b2 => ⟨xaay, ?_⟩))
    ·
     refine D_one (i := 9) rfl yk rfl (by decide : 8 < 48) (ol_alloc (t := posT) rfl tok31 yf (fun b3 => ⟨xaay, ?_⟩))
     refine D_one (i := 10) rfl yk rfl trivial (ol_sw0 rfl rfl rfl rfl yf tok31 ⟨xaay, ?_⟩)
     refine D_end yk ?_
     refine W_regl (fun w0 => ?_)
     refine zM ?_
     refine yL (ov_load rfl rfl ye trivial rfl rfl tok31) ?_
     refine LO_l rfl (by decide : 45 < 48) (ol_buildSlice (t := posT) (xs := [_]) rfl rfl rfl Tryz.underlying46 tok31 xafy yd yd yd (fun v1 => ?_))
     refine LO_l rfl (by decide : 46 < 48) (ol_ap3 (t := posT) rfl rfl rfl xaby ap46 xahy xahy (fun v2 => ?_))
     refine zA ?_
     refine LO_nil ?_
     refine W_reg ?_
     refine yM ?_
     refine yR (ov_add rfl rfl rfl ya) ?_
     refine yA_ ?_
     refine RO_nil ?_
     exact ⟨(kq + 1, _), xaly, xaly, ⟨rfl, rfl, rfl, rfl, rfl, trivial⟩, (by rw [nJ_next qs i kq (Int.ofNat_lt.1 hc3)]; exact yb)⟩
    ·
     refine D_oneV (i := 8) rfl yk rfl rfl yd xaay (yV rfl rfl rfl Tryz.call56 (c_ref16_Made (qs.getD ((i : Nat) : Int).toNat (zero posT)) hpx ((list17 (qs.getD ((i : Nat) : Int).toNat (zero posT))).getD ((kq : Nat) : Int).toNat (zero moveT)) hmm.1 _ hmm.2)) ?_
     refine D_one (i := 10) rfl yk rfl trivial (ol_sw0 rfl rfl rfl rfl yf tok31 ⟨xaay, ?_⟩)
     refine D_end yk ?_
     refine W_regl (fun w0 => ?_)
     refine zM ?_
     refine yL (ov_load rfl rfl ye trivial rfl rfl tok31) ?_
     refine LO_l rfl (by decide : 45 < 48) (ol_buildSlice (t := posT) (xs := [_]) rfl rfl rfl Tryz.underlying46 tok31 xafy yd yd yd (fun v3 => ?_))
     refine LO_l rfl (by decide : 46 < 48) (ol_ap3 (t := posT) rfl rfl rfl xaby ap46 xahy xahy (fun v4 => ?_))
     refine zA ?_
     refine LO_nil ?_
     refine W_reg ?_
     refine yM ?_
     refine yR (ov_add rfl rfl rfl ya) ?_
     refine yA_ ?_
     refine RO_nil ?_
     exact ⟨(kq + 1, _), xaly, xaly, ⟨rfl, rfl, rfl, rfl, rfl, trivial⟩, (by rw [nJ_next qs i kq (Int.ofNat_lt.1 hc3)]; exact yb)⟩
   ·
    try simp only [yS] at hc3
    refine W_exit ?_
    refine W_reg ?_
    refine yM ?_
    refine yR (ov_add rfl rfl rfl ya) ?_
    refine yA_ ?_
    refine RO_nil ?_
    exact ⟨(i + 1, _), xaly, xaly, ⟨rfl, rfl, rfl, trivial⟩, (by first | (rw [nI_no qs i hc2 yo]; exact yb) | (rw [nI_all qs i kq hc2 yo (Int.ofNat_le.1 hc3)]; exact yb))⟩
 ·
  try simp only [yS] at hc1
  refine W_exit ?_
  refine W_seq (W_reg ?_)
  refine yM ?_
  refine yA_ ?_
  refine RO_nil ?_
  refine W_ret ?_
  refine ⟨trivial, _, .row _ 31 posT (nextR qs) :: M, (ResV_tmp1 rfl rfl rfl), ?_, rfl⟩
  rw [show nextR qs = nI qs i from nI_end qs i yo]; exact yb

theorem c_ref22_Ends (p : Pos) (hp : POK p) (dn : Nat) (M : List Fact) (hdn : dn ≤ 1000) (hbn : ∀ i : Nat, i ≤ dn → (lvR i p).length ≤ 1000000) : Pure Tryz.prog 10 [enc posT p, .int .i64 (dn : Int)] M (enc (.ar 4 i64) (tallyX (lvR dn p))) := by
 have hb := hp.board
 have hpw := hp.wf
 have hvr := hp.vr
 have htu := hp.tu
 have hpg := hp.pg
 have hvr0 := hp.vr
 have htu0 := hp.tu
 simp only [vr] at hvr0
 simp only [tu] at htu0
 have hbd := hbn dn (Nat.le_refl _)
 refine pure_of_W (n := 37) Tryz.func10 rfl rfl yn ?_
 refine W_seq (W_regl fun w0 => ?_)
 refine LO_l rfl (by decide : 2 < 37) (ol_box (t := posT) rfl rfl rfl yf (fun b1 => ?_))
 refine LO_l rfl (by decide : 4 < 37) (ol_alloc (t := (.ar 4 i64)) rfl tok37 yf (fun b2 => ?_))
 refine LO_nil ?_
 refine W_seq (W_regl fun w0 => ?_)
 refine yL (ov_load rfl rfl ye trivial rfl rfl tok31) ?_
 refine LO_l rfl (by decide : 11 < 37) (ol_buildSlice (t := posT) (xs := [_]) rfl rfl rfl Tryz.underlying46 tok31 xafy yd yd yd (fun v1 => ?_))
 refine zA ?_
 refine LO_nil ?_
 refine W_seq ?_
 refine W_seq (W_reg ?_)
 refine yA_ ?_
 refine RO_nil ?_
 refine W_block ?_
 refine W_loop (σ := Nat × Value) (fun s => s.1 ≤ dn) (fun s => [(1, .int .i64 (dn : Int)), (4, ptrv b2 (.ar 4 i64) []), (5, s.2), (6, .int .i64 (s.1 : Int))]) (fun s => .row s.2 31 posT (lvR s.1 p) :: .box b2 37 (.ar 4 i64) (zero (.ar 4 i64)) :: .box b1 31 posT p :: M) (fun s => dn - s.1) ((0, _)) (by simp) ⟨rfl, rfl, rfl, rfl, trivial⟩ yb ?_
 rintro ⟨i, v3⟩ hI
 simp only at hI
 refine W_seq ?_
 refine W_seq (W_reg ?_)
 refine yM ?_
 refine yM ?_
 refine yR (ov_lss rfl rfl rfl) ?_
 refine RO_nil ?_
 refine W_cond rfl (fun hc1 => ?_) (fun hc1 => ?_)
 ·
  try simp only [yS] at hc1
  refine W_skip ?_
  refine W_seq ?_
  refine W_block ?_
  refine W_regl (fun w0 => ?_)
  refine zM ?_
  refine LO_l rfl (by decide : 18 < 37) (ol_call (v0 := []) (v2 := []) rfl rfl rfl Tryz.call29 (Con.mono (c_ref22_Next _ (lvR i p) _ xaby (lvR_ok hp i) (hbn i yo) (hbn (i + 1) yo)) ?_))
  rintro u5 _ rfl
  refine zA ?_
  refine LO_nil ?_
  refine W_reg ?_
  refine yM ?_
  refine yR (ov_add rfl rfl rfl ya) ?_
  refine yA_ ?_
  refine RO_nil ?_
  exact ⟨(i + 1, _), xaly, xaly, ⟨rfl, rfl, rfl, rfl, trivial⟩, (by exact yb)⟩
 ·
  try simp only [yS] at hc1
  refine W_exit ?_
  refine W_seq ?_
  obtain rfl : dn = i := by omega
  refine W_regl (fun w0 => ?_)
  refine LO_l rfl (by decide : 7 < 37) (ol_alloc (t := (.ar 4 i64)) rfl tok37 yf (fun b3 => ?_))
  refine LO_nil ?_
  refine W_seq ?_
  refine W_seq (W_reg ?_)
  refine yA_ ?_
  refine RO_nil ?_
  refine W_block ?_
  refine W_loop (σ := Nat) (fun s5 => s5 ≤ (lvR dn p).length) (fun s5 => [(4, ptrv b2 (.ar 4 i64) []), (7, ptrv b3 (.ar 4 i64) []), (5, v3), (8, .int .i64 (s5 : Int))]) (fun s5 => .box b3 37 (.ar 4 i64) (tlR (lvR dn p) s5) :: .row v3 31 posT (lvR dn p) :: .box b2 37 (.ar 4 i64) (zero (.ar 4 i64)) :: .box b1 31 posT p :: M) (fun s5 => (lvR dn p).length - s5) (0) (by simp) ⟨rfl, rfl, rfl, rfl, trivial⟩ yb ?_
  rintro i hI
  refine W_seq ?_
  refine W_seq (W_reg ?_)
  refine yM ?_
  refine yM ?_
  refine yR (ov_len rfl rfl xaby Tryz.underlying46) ?_
  refine yR (ov_lss rfl rfl rfl) ?_
  refine RO_nil ?_
  refine W_cond rfl (fun hc2 => ?_) (fun hc2 => ?_)
  ·
   try simp only [yS] at hc2
   have hpx := q_ok (qs := (lvR dn p)) (lvR_ok hp dn) (i := i) yo
   have hwx := hpx.wf
   have hst := outX_state hpx
   have hst1 : @LE.le Int _ 0 (outX ((lvR dn p).getD ((i : Nat) : Int).toNat (zero posT))).1 ∧ @LE.le Int _ (outX ((lvR dn p).getD ((i : Nat) : Int).toNat (zero posT))).1 3 := hst
   have htr := tlR_rng (lvR dn p) i yo (outX ((lvR dn p).getD ((i : Nat) : Int).toNat (zero posT))).1.toNat
   have htr1 : @LE.le Int _ 0 ((tlR (lvR dn p) i).getD (outX ((lvR dn p).getD ((i : Nat) : Int).toNat (zero posT))).1.toNat (zero i64)) ∧ @LE.le Int _ ((tlR (lvR dn p) i).getD (outX ((lvR dn p).getD ((i : Nat) : Int).toNat (zero posT))).1.toNat (zero i64)) 1000000 := htr
   refine W_skip ?_
   refine W_seq ?_
   refine W_block ?_
   refine W_seq (W_regl fun w0 => ?_)
   refine zM ?_
   refine zM ?_
   refine yL (ov_indexAddr_sl (t := posT) rfl rfl xaby rfl Tryz.underlying46 Tryz.sizeOf31 ya ya) ?_
   refine yL (ov_load_e (t := posT) (p := []) rfl rfl xaby ya trivial rfl rfl tok31) ?_
   refine yQ (yV rfl rfl rfl Tryz.call22 (c_ref19_Of ((lvR dn p).getD ((i : Nat) : Int).toNat (zero posT)) hpx _)) ?_
   refine LO_l rfl (by decide : 9 < 37) (ol_alloc (t := resT) rfl tok58 yf (fun b4 => ?_))
   refine LO_l rfl trivial (ol_sw0 rfl rfl rfl rfl yf tok58 ?_)
   refine LO_nil ?_
   refine W_regl (fun w0 => ?_)
   refine yL (ov_fieldAddr rfl rfl fa58_0 rfl) ?_
   refine yL (ov_load rfl rfl ye ⟨trivial, yn⟩ rfl rfl tok5) ?_
   refine yL (ov_indexAddr rfl rfl rfl Tryz.underlying37 rfl Tryz.sizeOf3 ya ya) ?_
   refine yL (ov_load rfl rfl ye ⟨trivial, (tn ya ya)⟩ rfl rfl tok3) ?_
   refine yL (ov_add rfl rfl rfl ya) ?_
   refine yL (ov_indexAddr rfl rfl rfl Tryz.underlying37 rfl Tryz.sizeOf3 ya ya) ?_
   refine LO_l rfl trivial (ol_st1 rfl rfl rfl ⟨trivial, (tn ya ya)⟩ rfl yf tok3 ?_)
   refine LO_nil ?_
   refine W_reg ?_
   refine yM ?_
   refine yR (ov_add rfl rfl rfl ya) ?_
   refine yA_ ?_
   refine RO_nil ?_
   exact ⟨i + 1, yo, yo, ⟨rfl, rfl, rfl, rfl, trivial⟩, (by rw [tlR_next (lvR dn p) i yo]; exact yb)⟩
  ·
   try simp only [yS] at hc2
   have hwt : wf (.ar 4 i64) (tlR (lvR dn p) i) := ⟨tlR_len _ _, fun _ _ => trivial⟩
   refine W_exit ?_
   refine W_seq (W_regl fun w0 => ?_)
   refine yL (ov_load rfl rfl ye trivial rfl rfl tok37) ?_
   refine LO_l rfl trivial (ol_sw2 rfl rfl rfl rfl yf tok37 ?_)
   refine LO_nil ?_
   refine W_ret ?_
   refine ⟨trivial, yb, (ResV_cell rfl rfl ye rfl tok37 ?_)⟩
   exact val_enc (tlR_all _ i yo).symm

theorem c_law22_sum (l : List (El i64)) (M : List Fact) (hl : l.length = 4) (hlr : ∀ i, 0 ≤ gAt l i ∧ gAt l i ≤ 1000000) : Pure Tryz.prog 11 [enc (.ar 4 i64) l] M (.int .i64 (((gAt l 0 + gAt l 1) + gAt l 2) + gAt l 3)) := by
 have hwl : wf (.ar 4 i64) l := ⟨hl, fun _ _ => trivial⟩
 have h0 : @LE.le Int _ 0 (l.getD (0 : Int).toNat (zero i64)) ∧ @LE.le Int _ (l.getD (0 : Int).toNat (zero i64)) 1000000 := hlr 0
 have h1 : @LE.le Int _ 0 (l.getD (1 : Int).toNat (zero i64)) ∧ @LE.le Int _ (l.getD (1 : Int).toNat (zero i64)) 1000000 := hlr 1
 have h2 : @LE.le Int _ 0 (l.getD (2 : Int).toNat (zero i64)) ∧ @LE.le Int _ (l.getD (2 : Int).toNat (zero i64)) 1000000 := hlr 2
 have h3 : @LE.le Int _ 0 (l.getD (3 : Int).toNat (zero i64)) ∧ @LE.le Int _ (l.getD (3 : Int).toNat (zero i64)) 1000000 := hlr 3
 refine pure_of_W (n := 14) Tryz.func11 rfl rfl yn ?_
 refine W_seq (W_regl fun w0 => ?_)
 refine LO_l rfl (by decide : 1 < 14) (ol_box (t := (.ar 4 i64)) rfl rfl rfl yf (fun b1 => ?_))
 refine zA ?_
 refine LO_nil ?_
 refine W_seq (W_reg ?_)
 refine yR (ov_indexAddr rfl rfl rfl Tryz.underlying37 rfl Tryz.sizeOf3 ya ya) ?_
 refine yR (ov_load rfl rfl ye ⟨trivial, (tn ya ya)⟩ rfl rfl tok3) ?_
 refine yR (ov_indexAddr rfl rfl rfl Tryz.underlying37 rfl Tryz.sizeOf3 ya ya) ?_
 refine yR (ov_load rfl rfl ye ⟨trivial, (tn ya ya)⟩ rfl rfl tok3) ?_
 refine yR (ov_add rfl rfl rfl ya) ?_
 refine yR (ov_indexAddr rfl rfl rfl Tryz.underlying37 rfl Tryz.sizeOf3 ya ya) ?_
 refine yR (ov_load rfl rfl ye ⟨trivial, (tn ya ya)⟩ rfl rfl tok3) ?_
 refine yR (ov_add rfl rfl rfl ya) ?_
 refine yR (ov_indexAddr rfl rfl rfl Tryz.underlying37 rfl Tryz.sizeOf3 ya ya) ?_
 refine yR (ov_load rfl rfl ye ⟨trivial, (tn ya ya)⟩ rfl rfl tok3) ?_
 refine yR (ov_add rfl rfl rfl ya) ?_
 refine yA_ ?_
 refine RO_nil ?_
 refine W_ret ?_
 refine ⟨trivial, yb, (ResV_tmp1 rfl rfl ?_)⟩
 rfl

theorem c_law22_Wide (p : Pos) (hp : POK p) (M : List Fact) : Pure Tryz.prog 6 [enc posT p] M (.bool (wideR p)) := by
 have hb := hp.board
 have hpw := hp.wf
 have hvr := hp.vr
 have htu := hp.tu
 have hpg := hp.pg
 have hvr0 := hp.vr
 have htu0 := hp.tu
 simp only [vr] at hvr0
 simp only [tu] at htu0
 have hal := allR_len p
 have hal2 := allR_len (setPg (setTu p (1 - tu p)) (-1))
 refine pure_of_W (n := 21) Tryz.func6 rfl rfl yn ?_
 refine W_seq (W_regl fun w0 => ?_)
 refine LO_l rfl (by decide : 1 < 21) (ol_box (t := posT) rfl rfl rfl yf (fun b1 => ?_))
 refine zA ?_
 refine LO_nil ?_
 refine W_seq ?_
 refine W_seq (W_reg ?_)
 refine yR (ov_load rfl rfl ye trivial rfl rfl tok31) ?_
 refine yP (yV rfl rfl rfl Tryz.call23 (by apply c_ref13_There <;> exact yz)) ?_
 refine yR (ov_not rfl rfl) ?_
 refine RO_nil ?_
 refine W_cond rfl (fun hc1 => ?_) (fun hc1 => ?_)
 ·
  refine W_seq (W_reg ?_)
  refine yA_ ?_
  refine RO_nil ?_
  refine W_ret ?_
  refine ⟨trivial, yb, (ResV_tmp1 rfl rfl ?_)⟩
  exact xcey
 ·
  have ht1 : tu p ≤ 1 := there_tu hc1
  have ht2 := ht1
  simp only [tu] at ht2
  have hqk := POK_setPg (POK_setTu hp (x := 1 - tu p) (by simp only [tu]; omega) (by simp only [tu]; omega)) (x := -1) yd yd
  have hml := mul_rng hal hal2
  refine W_skip ?_
  refine W_seq (W_regl fun w0 => ?_)
  refine yL (ov_load rfl rfl ye trivial rfl rfl tok31) ?_
  refine LO_l rfl (by decide : 3 < 21) (ol_alloc (t := posT) rfl tok31 yf (fun b2 => ?_))
  refine LO_l rfl trivial (ol_sw0 rfl rfl rfl rfl yf tok31 ?_)
  refine LO_nil ?_
  refine W_seq (W_regl fun w0 => ?_)
  refine yL (ov_fieldAddr rfl rfl fa31_4 rfl) ?_
  refine yL (ov_load rfl rfl ye ⟨trivial, yn⟩ rfl rfl tok5) ?_
  refine yL (ov_sub rfl rfl rfl ya) ?_
  refine yL (ov_fieldAddr rfl rfl fa31_4 rfl) ?_
  refine LO_l rfl trivial (ol_st0 rfl rfl rfl ⟨trivial, yn⟩ rfl yf tok5 ?_)
  refine LO_nil ?_
  refine W_seq (W_regl fun w0 => ?_)
  refine yL (ov_fieldAddr rfl rfl fa31_6 rfl) ?_
  refine LO_l rfl trivial (ol_st0 rfl rfl rfl ⟨trivial, yn⟩ rfl yf tok26 ?_)
  refine LO_nil ?_
  refine W_seq ?_
  refine W_regD (fun i => true) mixed (fun w0 => ?_)
  refine D_mem0 (i := 0) rfl yk yk rfl rfl yd (ov_load rfl rfl ye trivial rfl rfl tok31) ?_
  refine D_mem0 (i := 3) rfl yk yk rfl rfl yd (ov_load rfl rfl ye trivial rfl rfl tok31) ?_
  refine D_one (i := 1) rfl yk rfl (by decide : 14 < 21) (ol_call (v0 := []) (v2 := []) rfl rfl rfl Tryz.call24 (Con.mono (by apply c_ref16_All <;> exact yz) ?_))
  rintro u5 _ rfl
  refine ⟨xaay, ?_⟩
  refine D_two (i := 2) (j := 4) rfl rfl yk rfl rfl (by decide : 15 < 21) (by decide : 17 < 21) ((OpL_two (OpX.v (ov_len rfl rfl xaby Tryz.underlying48)) ⟨xaay, ?_⟩)) (ol_call (v0 := []) (v2 := []) rfl rfl rfl Tryz.call24 (Con.mono (c_ref16_All (setPg (setTu p (1 - tu p)) (-1)) hqk _) ?_))
  ·
   refine D_one (i := 4) rfl yk rfl (by decide : 17 < 21) (ol_call (v0 := []) (v2 := []) rfl rfl rfl Tryz.call24 (Con.mono (c_ref16_All (setPg (setTu p (1 - tu p)) (-1)) hqk _) ?_))
   rintro u6 _ rfl
   refine ⟨xaay, ?_⟩
   refine D_oneV (i := 5) rfl yk rfl rfl yd xaay (OpX.v (ov_len rfl rfl xaby Tryz.underlying48)) ?_
   refine D_oneV (i := 6) rfl yk rfl rfl yd xaay (OpX.v (ov_mul rfl rfl rfl ya)) ?_
   refine D_oneV (i := 7) rfl yk rfl rfl yd xaay (OpX.v (ov_gtr rfl rfl rfl)) ?_
   refine D_oneV (i := 8) rfl yk rfl rfl yd xaay (OpX.v (ov_assign rfl rfl)) ?_
   refine D_end yk ?_
   refine W_ret ?_
   refine ⟨trivial, yb, (ResV_tmp1 rfl rfl ?_)⟩
   exact xcey
  ·
   rintro u6 _ rfl
   refine ⟨xaay, ?_⟩
   refine D_two (i := 2) (j := 5) rfl rfl yk rfl rfl (by decide : 15 < 21) (by decide : 18 < 21) ((OpL_two (OpX.v (ov_len rfl rfl xaby Tryz.underlying48)) ⟨xaay, ?_⟩)) ((OpL_two (OpX.v (ov_len rfl rfl xaby Tryz.underlying48)) ⟨xaay, ?_⟩))
   ·
    refine D_oneV (i := 5) rfl yk rfl rfl yd xaay (OpX.v (ov_len rfl rfl xaby Tryz.underlying48)) ?_
    refine D_oneV (i := 6) rfl yk rfl rfl yd xaay (OpX.v (ov_mul rfl rfl rfl ya)) ?_
    refine D_oneV (i := 7) rfl yk rfl rfl yd xaay (OpX.v (ov_gtr rfl rfl rfl)) ?_
    refine D_oneV (i := 8) rfl yk rfl rfl yd xaay (OpX.v (ov_assign rfl rfl)) ?_
    refine D_end yk ?_
    refine W_ret ?_
    refine ⟨trivial, yb, (ResV_tmp1 rfl rfl ?_)⟩
    exact xcey
   ·
    refine D_oneV (i := 2) rfl yk rfl rfl yd xaay (OpX.v (ov_len rfl rfl xaby Tryz.underlying48)) ?_
    refine D_oneV (i := 6) rfl yk rfl rfl yd xaay (OpX.v (ov_mul rfl rfl rfl ya)) ?_
    refine D_oneV (i := 7) rfl yk rfl rfl yd xaay (OpX.v (ov_gtr rfl rfl rfl)) ?_
    refine D_oneV (i := 8) rfl yk rfl rfl yd xaay (OpX.v (ov_assign rfl rfl)) ?_
    refine D_end yk ?_
    refine W_ret ?_
    refine ⟨trivial, yb, (ResV_tmp1 rfl rfl ?_)⟩
    exact xcey
end Go.Kw
set_option linter.unusedVariables false
namespace Go.Kw
theorem filter_flat {α β : Type} (f : α → Bool) (g : α → List β) : ∀ l : List α, (l.filter f).flatMap g = l.flatMap fun x => if f x = true then g x else []
  | [] => rfl
  | x :: l => by
    rw [List.filter_cons, List.flatMap_cons]
    cases h : f x with
    | true => rw [if_pos rfl, if_pos rfl, List.flatMap_cons, filter_flat f g l]
    | false => rw [if_neg (by simp), if_neg (by simp), filter_flat f g l]; rfl
theorem bits_flat {β : Type} (b : BitVec 64) (g : Int → List β) : (show List Int from bitsOf b).flatMap g = (List.range 64).flatMap fun i : Nat => if b.getLsbD i = true then g (i : Int) else [] := by
  rw [bitsOf_from 64 0 b rfl (by intro j hj; omega)]
  show (List.map _ (List.filter _ (List.range' 0 64))).flatMap g = _
  rw [← List.range_eq_range']
  have e : ∀ l : List Nat, (l.map fun i => ((i : Nat) : Int)).flatMap g = l.flatMap fun i : Nat => g (i : Int) := fun l => by
    induction l with
    | nil => rfl
    | cons x l ih => simp only [List.map_cons, List.flatMap_cons, ih]
  rw [e, filter_flat]
theorem flat_congr {α β : Type} {f g : α → List β} : ∀ {l : List α}, (∀ x ∈ l, f x = g x) → l.flatMap f = l.flatMap g
  | [], _ => rfl
  | x :: l, h => by
    rw [List.flatMap_cons, List.flatMap_cons, h x List.mem_cons_self, flat_congr fun y hy => h y (List.mem_cons_of_mem _ hy)]
theorem own_bit (p : Pos) (c : Int) {t : Nat} (ht : t < 64) : (ofB p c 0).getLsbD t = ownR p (t : Int) c := ofB_own p c ht
theorem ofInt_nat {x : Int} (h0 : 0 ≤ x) (h1 : x < 64) : (BitVec.ofInt 64 x).toNat = x.toNat := by
  rw [BitVec.toNat_ofInt]; omega
theorem bitAt_get (b : BitVec 64) {x : Int} (h0 : 0 ≤ x) (h1 : x < 64) : bitAt b x = b.getLsbD x.toNat := by
  unfold bitAt
  rw [ofInt_nat h0 h1, Int.toNat_natCast]
  have e : (b >>> x.toNat) &&& 1#64 = if b.getLsbD x.toNat = true then 1#64 else 0#64 := by
    apply BitVec.eq_of_getLsbD_eq
    intro t ht
    rw [BitVec.getLsbD_and, BitVec.getLsbD_ushiftRight, BitVec.getLsbD_one]
    by_cases h : t = 0
    · subst h
      cases hb : b.getLsbD x.toNat <;> simp [hb]
    · cases hb : b.getLsbD x.toNat <;> simp [h]
  rw [e]
  cases b.getLsbD x.toNat <;> decide
theorem shlB_eq {x : Int} (h0 : 0 ≤ x) (h1 : x < 64) {t : Nat} (ht : t < 64) : (shlB x).getLsbD t = decide ((t : Int) = x) := by
  rw [← oneB_bit h0 h1 ht]
  unfold shlB oneB
  rw [ofInt_nat h0 h1, Int.toNat_natCast, if_neg yo]
section
variable {p : Pos} (hp : POK p) (ht : tu p ≤ 1)
include hp ht
theorem own_oth : ofB p (tu p) 0 ||| ofB p (1 - tu p) 0 = allB p := by
  apply BitVec.eq_of_getLsbD_eq
  intro t h
  have h0 := hp.tu
  rw [BitVec.getLsbD_or, ofB_own p _ h, ofB_own p _ h, allB_bit p h]
  by_cases hk : kind (pb p (t : Int)) = 0
  · rw [decide_eq_true hk]; rfl
  · rw [decide_eq_false hk]
    have hb := hp.board t
    have := kind_c (x := pb p (t : Int)) (show 0 ≤ (bd p).getD t 0 from hb.1) hk
    by_cases e : pb p (t : Int) / 8 = tu p
    · rw [decide_eq_true e]; rfl
    · rw [decide_eq_false e, decide_eq_true (show pb p (t : Int) / 8 = 1 - tu p by omega)]; rfl
theorem rank_eq {s : Int} (h0 : 0 ≤ s) (h1 : s < 64) : rankP (tu p) s = rankR (tu p) s := by
  have h2 := hp.tu
  have hx := (xor56 h0 h1).1
  unfold rankP rankR
  by_cases e : tu p = 1
  · rw [if_pos e, if_neg yo, hx]
  · rw [if_neg e, if_pos yo]
theorem ahead_eq (s : Int) : aheadP (tu p) s = s + upR (tu p) := by
  have h2 := hp.tu
  unfold aheadP upR
  by_cases e : tu p = 1
  · rw [if_pos e, if_neg yo]; omega
  · rw [if_neg e, if_pos yo]
omit ht in
theorem pass_bit {t : Nat} (h : t < 64) : (passB p).getLsbD t = decide (pg p = (t : Int)) := by
  unfold passB
  split
  · rename_i h1
    simp only [Bool.or_eq_true, decide_eq_true_eq] at h1
    rw [decide_eq_false yo]; simp
  · rename_i h1
    simp only [Bool.or_eq_true, decide_eq_true_eq, not_or] at h1
    rw [shlB_eq yo yo h]
    by_cases e : (t : Int) = pg p
    · rw [decide_eq_true e, decide_eq_true e.symm]
    · rw [decide_eq_false e, decide_eq_false (fun x => e x.symm)]
theorem pawn_bits {a b : Nat} (ha : a < 64) (hb : b < 64) (hk : kind (pb p (a : Int)) = 1) (hc : pb p (a : Int) / 8 = tu p) :
    (pawnTo p (ofB p (tu p) 0) (ofB p (1 - tu p) 0) (a : Int)).getLsbD b = pawnR p (a : Int) (b : Int) := by
  have h2 := hp.tu
  have hup := upR_val (tu p)
  have hup2 : upR (tu p) = if tu p = 0 then 8 else -8 := rfl
  have hrk := rank_eq hp ht (s := (a : Int)) yo yo
  have hh : hits p (a : Int) (b : Int) = pawnHit (tu p) (a : Int) (b : Int) := by rw [hits_eq, if_pos hk, hc]
  have hcap := (pawnB_b (s := (a : Int)) yo yo hb h2.1 ht).1
  have hcap2 : (pawnB (tu p) (a : Int) &&& (ofB p (1 - tu p) 0 ||| passB p)).getLsbD b = (hits p (a : Int) (b : Int) && (ownR p (b : Int) (1 - tu p) || decide (pg p = (b : Int)))) := by
    rw [BitVec.getLsbD_and, BitVec.getLsbD_or, own_bit p _ hb, pass_bit hp hb, hcap, hh]
  have hall : ∀ x : Int, 0 ≤ x → x < 64 → bitAt (allB p) x = !emptyR p x := fun x x0 x1 => by
    rw [bitAt_get _ x0 x1, allB_bit p yo, Int.toNat_of_nonneg x0]; rfl
  have hnorm : pawnHit (tu p) (a : Int) (b : Int) = true → ¬ (b : Int) = (a : Int) + upR (tu p) ∧ ¬ (b : Int) = (a : Int) + 2 * upR (tu p) := fun h => by
    unfold pawnHit at h
    have has : asideOf (a : Int) (b : Int) = 1 := by
      split at h <;> (simp only [Bool.and_eq_true, decide_eq_true_eq] at h; exact h.2)
    unfold asideOf iabs at has
    split at has <;> omega
  have hr0 : rankR (tu p) (a : Int) = if tu p = 0 then (a : Int) / 8 else 7 - (a : Int) / 8 := rfl
  unfold pawnTo
  rw [hrk, ahead_eq hp ht, ahead_eq hp ht, own_oth hp ht]
  unfold pawnR
  rw [hh]
  rw [hh] at hcap2
  by_cases h7 : rankR (tu p) (a : Int) = 7
  · rw [if_pos (decide_eq_true h7), hcap2]
    cases hx : pawnHit (tu p) (a : Int) (b : Int) with
    | true => rfl
    | false =>
      rw [if_neg (by simp)]
      have n1 : ¬ (b : Int) = (a : Int) + upR (tu p) := by
        rw [hup2]; rw [hr0] at h7; split <;> split at h7 <;> omega
      have n2 : ¬ (b : Int) = (a : Int) + 2 * upR (tu p) := by
        rw [hup2]; rw [hr0] at h7; split <;> split at h7 <;> omega
      rw [decide_eq_false n1, decide_eq_false n2]; rfl
  · rw [if_neg (by rw [decide_eq_false h7]; simp)]
    have hin : 0 ≤ (a : Int) + upR (tu p) ∧ (a : Int) + upR (tu p) < 64 := by
      rw [hup2]; rw [hr0] at h7; split <;> split at h7 <;> omega
    have hahead := hall _ hin.1 hin.2
    have hsh := shlB_eq hin.1 hin.2 hb
    rw [hahead]
    cases he : emptyR p ((a : Int) + upR (tu p)) with
    | false =>
      rw [if_pos (by rfl), hcap2]
      cases hx : pawnHit (tu p) (a : Int) (b : Int) with
      | true => rfl
      | false =>
        rw [if_neg (by simp)]
        by_cases e1 : (b : Int) = (a : Int) + upR (tu p)
        · rw [if_pos (decide_eq_true e1), e1, he]; rfl
        · rw [if_neg (by rw [decide_eq_false e1]; simp)]; simp
    | true =>
      rw [if_neg (by simp)]
      generalize hD : (decide (rankR (tu p) (a : Int) = 1) || ((decide (rankR (tu p) (a : Int) = 0) && decide (vr p = 7)) && decide (tu p = 0))) = D
      cases D with
      | false =>
        rw [if_neg (by simp), BitVec.getLsbD_or, hcap2, hsh]
        cases hx : pawnHit (tu p) (a : Int) (b : Int) with
        | true =>
          have := hnorm hx
          rw [if_pos rfl, decide_eq_false this.1]; simp
        | false =>
          rw [if_neg (by simp)]
          by_cases e1 : (b : Int) = (a : Int) + upR (tu p)
          · rw [if_pos (decide_eq_true e1), decide_eq_true e1, e1, he]; rfl
          · rw [if_neg (by rw [decide_eq_false e1]; simp), decide_eq_false e1]; simp
      | true =>
        have hin2 : 0 ≤ (a : Int) + upR (tu p) + upR (tu p) ∧ (a : Int) + upR (tu p) + upR (tu p) < 64 := by
          simp only [Bool.or_eq_true, Bool.and_eq_true, decide_eq_true_eq] at hD
          rw [hup2]; rw [hr0] at hD; split <;> split at hD <;> omega
        have hsh2 := shlB_eq hin2.1 hin2.2 hb
        rw [if_pos rfl, BitVec.getLsbD_or, BitVec.getLsbD_or, hcap2, hsh, BitVec.getLsbD_and, hsh2, BitVec.getLsbD_not, allB_bit p hb]
        simp only [hb, decide_true, Bool.true_and]
        have e3 : (!!decide (kind (pb p (b : Int)) = 0)) = emptyR p (b : Int) := by rw [Bool.not_not]; rfl
        rw [e3]
        cases hx : pawnHit (tu p) (a : Int) (b : Int) with
        | true =>
          have := hnorm hx
          rw [if_pos rfl, decide_eq_false this.1, decide_eq_false (show ¬ (b : Int) = (a : Int) + upR (tu p) + upR (tu p) by omega)]; simp
        | false =>
          rw [if_neg (by simp)]
          by_cases e1 : (b : Int) = (a : Int) + upR (tu p)
          · rw [if_pos (decide_eq_true e1), decide_eq_true e1, e1, he]; rfl
          · rw [if_neg (by rw [decide_eq_false e1]; simp), decide_eq_false e1]
            by_cases e2 : (b : Int) = (a : Int) + 2 * upR (tu p)
            · rw [decide_eq_true e2, decide_eq_true (show (b : Int) = (a : Int) + upR (tu p) + upR (tu p) by omega)]; simp
            · rw [decide_eq_false e2, decide_eq_false (show ¬ (b : Int) = (a : Int) + upR (tu p) + upR (tu p) by omega)]; simp
theorem may_bits {a b : Nat} (ha : a < 64) (hb : b < 64) : mayR p (a : Int) (b : Int) = ((ofB p (tu p) 0).getLsbD a && (toP p (ofB p (tu p) 0) (ofB p (1 - tu p) 0) (a : Int)).getLsbD b) := by
  have h2 := hp.tu
  rw [own_bit p _ ha]
  unfold mayR
  cases ho : ownR p (a : Int) (tu p) with
  | false => rw [if_pos (by simp)]; rfl
  | true =>
    cases hob : ownR p (b : Int) (tu p) with
    | true =>
      rw [if_pos (by simp)]
      unfold toP
      rw [BitVec.getLsbD_and, BitVec.getLsbD_not, own_bit p _ hb, hob]; simp
    | false =>
      have hab : ¬ (a : Int) = (b : Int) := fun e => by rw [e, hob] at ho; cases ho
      rw [if_neg (by rw [decide_eq_false hab]; simp)]
      obtain ⟨ho1, ho2⟩ := Bool.and_eq_true_iff.1 ho
      have hc := of_decide_eq_true ho2
      have hk0 : ¬ kind (pb p (a : Int)) = 0 := ndec ho1
      have hr := kind_le (pb p (a : Int))
      rw [Bool.true_and]
      unfold toP
      rw [BitVec.getLsbD_and, BitVec.getLsbD_not, own_bit p _ hb, hob, own_oth hp ht]
      simp only [hb, decide_true, Bool.not_false, Bool.and_true]
      have : kind (pb p (a : Int)) = 1 ∨ kind (pb p (a : Int)) = 2 ∨ kind (pb p (a : Int)) = 3 ∨ kind (pb p (a : Int)) = 4 ∨ kind (pb p (a : Int)) = 5 ∨ kind (pb p (a : Int)) = 6 := by omega
      rcases this with h | h | h | h | h | h
      · rw [if_pos (decide_eq_true h), if_pos h]; exact (pawn_bits hp ht ha hb h hc).symm
      · rw [if_neg (by rw [h]; decide), if_neg (by rw [h]; decide), if_neg yo, if_pos h, (knightB_b yo yo hb).1, hits_eq, if_neg yo, if_pos h]
      · rw [if_neg (by rw [h]; decide), if_neg (by rw [h]; decide), if_neg yo, if_neg yo, if_pos h, bishop_from yo yo hb, hits_eq, if_neg yo, if_neg yo, if_neg yo, if_neg yo, if_pos h]
      · rw [if_neg (by rw [h]; decide), if_neg (by rw [h]; decide), if_neg yo, if_neg yo, if_neg yo, if_pos h, rook_from yo yo hb, hits_eq, if_neg yo, if_neg yo, if_neg yo, if_pos h]
      · rw [if_neg (by rw [h]; decide), if_neg (by rw [h]; decide), if_neg yo, if_neg yo, if_neg yo, if_neg yo, if_pos h, queen_from yo yo hb, hits_eq, if_neg yo, if_neg yo, if_neg yo, if_neg yo, if_neg yo, if_pos h]
      · rw [if_neg (by rw [h]; decide), if_pos (decide_eq_true h), if_neg yo, if_neg yo, if_neg yo, if_neg yo, if_neg yo, if_pos h, hits_eq, if_neg yo, if_neg yo, if_pos h]
        by_cases hv : vr p = 3
        · rw [if_pos hv, decide_eq_true hv, BitVec.getLsbD_and, BitVec.getLsbD_not, (kingB_b yo yo hb).1, own_bit p _ hb]
          simp only [hb, decide_true, Bool.true_and, Bool.not_true, Bool.false_or]
          congr 1
          have e1 : (allB p).getLsbD b = ((ofB p (tu p) 0).getLsbD b || (ofB p (1 - tu p) 0).getLsbD b) := by rw [← own_oth hp ht, BitVec.getLsbD_or]
          rw [allB_bit p hb, own_bit p _ hb, own_bit p _ hb, hob, Bool.false_or] at e1
          rw [← e1, Bool.not_not]; rfl
        · rw [if_neg hv, decide_eq_false hv, (kingB_b yo yo hb).1]; simp
theorem each_mvs {a b : Nat} (ha : a < 64) (hb : b < 64) : eachL p ((a : Int), (b : Int), (0 : Int), (0 : Int), false, ()) = if oneR p (a : Int) (b : Int) = true then [mvR (a : Int) (b : Int)] else (show List Int from promP (vr p)).map (setProm (mvR (a : Int) (b : Int))) := by
  show (if (!decide (kind (pb p (a : Int)) = 1) || !decide (rankP (tu p) (b : Int) = 7)) = true then _ else _) = _
  rw [rank_eq hp ht yo yo]; rfl
end
theorem pseudo_ref {p : Pos} (hp : POK p) : pseudoL p = list13 p := by
  unfold pseudoL list13 ofS
  by_cases hn : (decide (1 < tu p) || decide (9 ≤ vr p)) = true
  · have : thereR p = false := by
      unfold thereR
      rw [Bool.or_eq_true] at hn
      rcases hn with h | h
      · rw [decide_eq_false (show ¬ tu p < 2 by have := of_decide_eq_true h; omega), Bool.and_false]
      · rw [decide_eq_false (show ¬ vr p < 9 by have := of_decide_eq_true h; omega), Bool.false_and]
    rw [if_pos hn, this]; rfl
  · have hn' := Bool.eq_false_iff.2 hn
    obtain ⟨e1, e2⟩ := Bool.or_eq_false_iff.1 hn'
    have ht : tu p ≤ 1 := Int.not_lt.1 (of_decide_eq_false e1)
    have hv : ¬ 9 ≤ vr p := of_decide_eq_false e2
    have : thereR p = true := by
      unfold thereR
      rw [decide_eq_true (show vr p < 9 by omega), decide_eq_true (show tu p < 2 by omega)]; rfl
    rw [if_neg hn, this, if_pos rfl, if_neg (by simp)]
    unfold movesL listI
    rw [bits_flat]
    refine flat_congr fun a ha => ?_
    have ha := List.mem_range.1 ha
    unfold rowR
    cases ho : (ofB p (tu p) 0).getLsbD a with
    | false =>
      rw [if_neg (by simp)]
      symm
      rw [List.flatMap_eq_nil_iff]
      intro b hb
      have hb := List.mem_range.1 hb
      unfold mvsR
      rw [may_bits hp ht ha hb, ho, if_neg (by simp)]
    | true =>
      rw [if_pos rfl]
      unfold stepL
      rw [bits_flat]
      refine flat_congr fun b hb => ?_
      have hb := List.mem_range.1 hb
      unfold mvsR
      rw [may_bits hp ht ha hb, ho, Bool.true_and, each_mvs hp ht ha hb]
theorem drop_ref {p : Pos} (hp : POK p) : dropL p = list15 p := by
  have hpk := pockets_val hp.vr.1
  unfold dropL list15
  rw [hpk]
  by_cases hn : (decide (1 < tu p) || !decide (vr p = 2)) = true
  · rw [if_pos hn, if_pos hn]
  · rw [if_neg hn, if_neg hn]
    have key : ∀ n : Nat, dropO p n = dO p n := by
      intro n
      induction n with
      | zero => rfl
      | succ n ih =>
        rw [dropO, ih]
        unfold dO
        rw [range_flat]
        congr 1
        have hr := pkAt_rng hp (tu p) ((n : Int) + 1)
        unfold dropK dKind
        by_cases h0 : pkAt p (tu p) ((n : Int) + 1) = 0
        · rw [if_pos h0, if_neg yo]
        · rw [if_neg h0, if_pos yo]
          unfold dAll
          have hw : ∀ t : Nat, t < 64 → (dropW p ((n : Int) + 1)).getLsbD t = !dBad p ((n : Int) + 1) (t : Int) := fun t h => by
            have hm : ∀ t : Fin 64, (72057594037927680#64).getLsbD t.val = !(decide ((t.val : Int) < 8) || decide (55 < (t.val : Int))) := by decide
            have hm := hm ⟨t, h⟩
            unfold dropW dBad
            split
            · rename_i h1
              rw [BitVec.getLsbD_and, BitVec.getLsbD_not, allB_bit p h, hm, h1]
              simp [h]
            · rename_i h1
              rw [BitVec.getLsbD_not, allB_bit p h, decide_eq_false h1]
              simp [h]
          have e : ((show List Int from bitsOf (dropW p ((n : Int) + 1))).map (dropM ((n : Int) + 1))) = (show List Int from bitsOf (dropW p ((n : Int) + 1))).flatMap fun s => [dropM ((n : Int) + 1) s] := by
            generalize (show List Int from bitsOf (dropW p ((n : Int) + 1))) = l
            induction l with
            | nil => rfl
            | cons x l ih => rw [List.map_cons, List.flatMap_cons, ih]; rfl
          rw [e, bits_flat]
          refine flat_congr fun t h => ?_
          have h := List.mem_range.1 h
          rw [hw t h]
          unfold dOne
          cases dBad p ((n : Int) + 1) (t : Int) <;> rfl
    exact key 5
end Go.Kw
set_option linter.unusedVariables false
namespace Go.Kw
theorem okTo_iff (f : Nat → Bool) : ∀ n, okTo f n = true ↔ ∀ i, i < n → f i = false
  | 0 => by simp [okTo]
  | n + 1 => by
    rw [okTo, Bool.and_eq_true, okTo_iff f n, Bool.not_eq_true']
    constructor
    · rintro ⟨h1, h2⟩ i hi
      by_cases e : i = n
      · rw [e]; exact h2
      · exact h1 i yo
    · intro h
      exact ⟨fun i hi => h i yo, h n yo⟩
theorem rng_all (f : Int → Bool) (a b : Int) : (rngL a b).all f = true ↔ ∀ s, min a b ≤ s → s ≤ max a b → f s = true := by
  rw [List.all_eq_true]
  unfold rngL
  constructor
  · intro h s h1 h2
    apply h
    rw [List.mem_map]
    exact ⟨(s - min a b).toNat, List.mem_range.2 yo, by omega⟩
  · intro h s hs
    obtain ⟨i, hi, rfl⟩ := List.mem_map.1 hs
    have hi := List.mem_range.1 hi
    exact h _ yo yo
theorem within_iff (s a b : Int) : withinR s a b = true ↔ min a b ≤ s ∧ s ≤ max a b := by
  unfold withinR
  simp only [Bool.or_eq_true, Bool.and_eq_true, decide_eq_true_eq]
  omega
theorem noneAt_get (b : BitVec 64) {x : Int} (h0 : 0 ≤ x) (h1 : x < 64) : noneAt b x = !b.getLsbD x.toNat := by
  have h := bitAt_get b h0 h1
  unfold bitAt at h
  unfold noneAt
  cases e : b.getLsbD x.toNat with
  | true =>
    rw [e] at h
    rw [of_decide_eq_true h]; decide
  | false =>
    rw [e] at h
    have h := of_decide_eq_false h
    refine decide_eq_true ?_
    apply BitVec.eq_of_getLsbD_eq
    intro t ht
    rw [BitVec.getLsbD_and, BitVec.getLsbD_one, BitVec.getLsbD_zero, BitVec.getLsbD_ushiftRight, ofInt_nat h0 h1, Int.toNat_natCast]
    by_cases e2 : t = 0
    · subst e2; simp [e]
    · simp [e2]
theorem pb_put {p : Pos} (hp : POK p) (i v : Int) {t : Int} (h0 : 0 ≤ t) (h1 : t < 64) (i0 : 0 ≤ i) : pb (putB p i v) t = if t = i then v else pb p t := by
  show (List.set (show List Int from p.2.1) i.toNat v).getD t.toNat 0 = _
  rw [List.getD_eq_getElem?_getD, List.getElem?_set]
  have hl : (show List Int from p.2.1).length = 64 := hp.wf.2.1.1
  by_cases e : t = i
  · subst e
    rw [if_pos rfl, if_pos (by rw [hl]; omega), if_pos rfl]; rfl
  · rw [if_neg yo, if_neg e, ← List.getD_eq_getElem?_getD]; rfl
theorem isAt_put {p : Pos} (hp : POK p) (i v c k : Int) {t : Int} (h0 : 0 ≤ t) (h1 : t < 64) (i0 : 0 ≤ i) : isAt (putB p i v) t c k = if t = i then (decide (kind v = k) && decide (v / 8 = c)) else isAt p t c k := by
  unfold isAt
  rw [pb_put hp i v h0 h1 i0]
  split <;> rfl
theorem find_at {p : Pos} {c k : Int} (hk : ¬ k = 0) (h : 0 ≤ find p c k) : isAt p (find p c k) c k = true := by
  rw [← find_first p c hk] at h ⊢
  have hz : ¬ ofB p c k = 0#64 := fun e => by rw [e] at h; exact absurd h yd
  obtain ⟨i, hi, hb, hl⟩ := low_bit hz
  rw [first_low hi hb hl, ← ofB_kind p c hk hi]; exact hb
theorem goal_go : ∀ s : Fin 2, goalP (s.val : Int) 0 = (goR (s.val : Int)).1 ∧ goalP (s.val : Int) 1 = (goR (s.val : Int)).2 := by decide
theorem rook_piece {x c : Int} (x0 : 0 ≤ x) (c0 : 0 ≤ c) (c1 : c ≤ 1) : decide (x = 8 * c + 4) = (decide (kind x = 4) && decide (x / 8 = c)) := by
  by_cases e : x = 8 * c + 4
  · have hk : kind x = 4 := by unfold kind; rw [if_neg (by simp only [Bool.or_eq_true, decide_eq_true_eq]; omega)]; omega
    rw [decide_eq_true e, decide_eq_true hk, decide_eq_true (show x / 8 = c by omega)]; rfl
  · rw [decide_eq_false e]
    symm
    rw [Bool.and_eq_false_iff]
    by_cases hk : kind x = 4
    · right
      have : x % 8 = 4 := by rw [← kind_nz yo]; exact hk
      exact decide_eq_false yo
    · exact .inl (decide_eq_false hk)
section
variable {p : Pos} (hp : POK p)
include hp
theorem castK_find : castK p = find p (tu p) 6 := find_first p _ yd
theorem mayC1_of_home (ht : tu p ≤ 1) (side : Int) (h : (decide (castK p < 0) || !decide (castK p / 8 = 56 * tu p / 8)) = true) : mayC1 p side = true := by
  have h0 := hp.tu
  rw [castK_find hp] at h
  unfold mayC1
  simp only [Bool.or_eq_true, Bool.not_eq_true', decide_eq_true_eq, decide_eq_false_iff_not] at h ⊢
  left; left
  omega
theorem home_of (ht : tu p ≤ 1) (h : (decide (castK p < 0) || !decide (castK p / 8 = 56 * tu p / 8)) = false) : 56 * tu p ≤ find p (tu p) 6 ∧ find p (tu p) 6 ≤ 56 * tu p + 7 := by
  have h0 := hp.tu
  rw [castK_find hp] at h
  simp only [Bool.or_eq_false_iff, Bool.not_eq_false', decide_eq_true_eq, decide_eq_false_iff_not] at h
  omega
theorem rook_ref (ht : tu p ≤ 1) {side : Int} (s0 : 0 ≤ side) (s1 : side ≤ 1) (hk : 56 * tu p ≤ find p (tu p) 6 ∧ find p (tu p) 6 ≤ 56 * tu p + 7) :
    (rookP p (find p (tu p) 6) side).2 = (!mayC1 p side && !mayC2 p side) ∧ (mayC1 p side = false → (rookP p (find p (tu p) 6) side).1 = 56 * tu p + castF p side) := by
  have h0 := hp.tu
  have hf : rkAt p (tu p) side = castF p side := rfl
  unfold rookP
  rw [hf]
  by_cases hr : castF p side < 0 ∨ 7 < castF p side
  · rw [if_pos hr]
    have : mayC1 p side = true := by
      unfold mayC1
      simp only [Bool.or_eq_true, decide_eq_true_eq]; omega
    rw [this]
    exact ⟨rfl, fun h => by cases h⟩
  · rw [if_neg hr]
    have h1 : mayC1 p side = false := by
      unfold mayC1
      simp only [Bool.or_eq_false_iff, decide_eq_false_iff_not]; omega
    rw [h1]
    refine ⟨?_, fun _ => rfl⟩
    show (_ && _ && _) = (true && !mayC2 p side)
    rw [Bool.true_and]
    unfold mayC2
    have hb := hp.board (56 * tu p + castF p side).toNat
    rw [rook_piece (x := pb p (56 * tu p + castF p side)) hb.1 h0.1 ht]
    have hkk := find_at (p := p) (c := tu p) (k := 6) yd yo
    cases hi : (decide (kind (pb p (56 * tu p + castF p side)) = 4) && decide (pb p (56 * tu p + castF p side) / 8 = tu p)) with
    | false =>
      have : isAt p (56 * tu p + castF p side) (tu p) 4 = false := hi
      rw [this]; simp
    | true =>
      have h4 : isAt p (56 * tu p + castF p side) (tu p) 4 = true := hi
      have hne : ¬ 56 * tu p + castF p side = find p (tu p) 6 := fun e => by
        rw [e] at h4
        have k4 := of_decide_eq_true (Bool.and_eq_true_iff.1 h4).1
        have k6 := of_decide_eq_true (Bool.and_eq_true_iff.1 hkk).1
        omega
      rw [h4, decide_eq_false hne]
      have : side = 0 ∨ side = 1 := by omega
      rcases this with rfl | rfl
      · by_cases e : find p (tu p) 6 < 56 * tu p + castF p 0
        · rw [decide_eq_true e, decide_eq_false (show ¬ 56 * tu p + castF p 0 < find p (tu p) 6 by omega)]; rfl
        · rw [decide_eq_false e, decide_eq_true (show 56 * tu p + castF p 0 < find p (tu p) 6 by omega)]; rfl
      · by_cases e : find p (tu p) 6 < 56 * tu p + castF p 1
        · rw [decide_eq_true e, decide_eq_false (show ¬ 56 * tu p + castF p 1 < find p (tu p) 6 by omega)]; rfl
        · rw [decide_eq_false e, decide_eq_true (show 56 * tu p + castF p 1 < find p (tu p) 6 by omega)]; rfl
theorem safe_ref (ht : tu p ≤ 1) {k r s : Int} (k0 : 0 ≤ k) (k1 : k < 64) (r0 : 0 ≤ r) (r1 : r < 64) (hk : isAt p k (1 - tu p) 6 = false) (hr : isAt p r (1 - tu p) 6 = false) (h0 : 0 ≤ s) (h1 : s < 64) :
    safeP p (putB (putB p k 0) r 0) (ofB p (1 - tu p) 6) s = safeR (putB (putB p k 0) r 0) s := by
  have htu := hp.tu
  have hq1 := POK_put hp k (v := 0) yd yd
  have hq := POK_put hq1 r (v := 0) yd yd
  unfold safeP safeR
  rw [near_bits h0 h1, Bool.not_not, by_ref h0 h1 yo yo]
  show _ = if (decide (vr p = 3) && nearKing (putB (putB p k 0) r 0) (tu p) s 64) = true then true else decide (refBy (putB (putB p k 0) r 0) s (1 - tu p) = 0#64)
  have e : nearKing (putB (putB p k 0) r 0) (tu p) s 64 = nearKing p (tu p) s 64 := by
    have hi : ∀ m : Nat, m < 64 → isAt (putB (putB p k 0) r 0) (m : Int) (1 - tu p) 6 = isAt p (m : Int) (1 - tu p) 6 := fun m hm => by
      have z : (decide (kind 0 = 6) && decide ((0 : Int) / 8 = 1 - tu p)) = false := rfl
      rw [isAt_put hq1 r 0 _ _ yo yo r0, isAt_put hp k 0 _ _ yo yo k0, z]
      split
      · rename_i e; rw [e, hr]
      · split
        · rename_i e; rw [e, hk]
        · rfl
    have key : ∀ n : Nat, n ≤ 64 → nearKing (putB (putB p k 0) r 0) (tu p) s n = nearKing p (tu p) s n := by
      intro n
      induction n with
      | zero => exact fun _ => rfl
      | succ n ih => exact fun hn => by rw [nearKing, nearKing, ih yo, hi n yo]
    exact key 64 (Nat.le_refl _)
  rw [e]
  cases (decide (vr p = 3) && nearKing p (tu p) s 64) <;> rfl
theorem may_ref (hc : (decide (1 < tu p) || !castlesP (vr p)) = false) {side : Int} (s0 : 0 ≤ side) (s1 : side ≤ 1) (hk : 56 * tu p ≤ find p (tu p) 6 ∧ find p (tu p) 6 ≤ 56 * tu p + 7) :
    (mayP p (find p (tu p) 6) side).2 = (mayC p side).2.2 ∧ ((mayC p side).2.2 = true → (mayP p (find p (tu p) 6) side).1 = castM (mayC p side)) := by
  have ht : tu p ≤ 1 := Int.not_lt.1 (of_decide_eq_false (Bool.or_eq_false_iff.1 hc).1)
  have h0 := hp.tu
  obtain ⟨hr, hr1⟩ := rook_ref hp ht s0 s1 hk
  unfold mayP mayC
  rw [if_neg (Bool.eq_false_iff.1 hc), hr]
  cases e1 : mayC1 p side with
  | true => exact ⟨rfl, fun h => by cases h⟩
  | false =>
    have hF := cast_rng e1
    rw [if_neg (show ¬ (false = true) by simp)]
    cases e2 : mayC2 p side with
    | true => exact ⟨rfl, fun h => by cases h⟩
    | false =>
      rw [if_neg (show ¬ (false = true) by simp), if_pos (by rfl), hr1 e1]
      have hg := goal_go ⟨side.toNat, by omega⟩
      simp only [Int.toNat_of_nonneg s0] at hg
      have hgr := goR_rng side
      have hkk := find_at (p := p) (c := tu p) (k := 6) yd yo
      have hrk : isAt p (56 * tu p + castF p side) (tu p) 4 = true := by
        unfold mayC2 at e2
        have := (Bool.or_eq_false_iff.1 (Bool.or_eq_false_iff.1 e2).1).1
        simpa using this
      have notc : ∀ {x k : Int}, isAt p x (tu p) k = true → isAt p x (1 - tu p) 6 = false := fun h => by
        have := of_decide_eq_true (Bool.and_eq_true_iff.1 h).2
        unfold isAt
        rw [decide_eq_false (show ¬ pb p _ / 8 = 1 - tu p by omega), Bool.and_false]
      have hqk : POK (takeQ p side) := POK_put (POK_put hp _ yd yd) _ yd yd
      have hsafe : ∀ s : Int, 0 ≤ s → s < 64 → safeP p (takeQ p side) (ofB p (1 - tu p) 6) s = safeR (takeQ p side) s := fun s a b =>
        safe_ref hp ht yo yo yo yo (notc hkk) (notc hrk) a b
      have hnone : ∀ s : Int, 0 ≤ s → s < 64 → noneAt (allB (takeQ p side)) s = decide (kind (pb (takeQ p side) s) = 0) := fun s a b => by
        rw [noneAt_get _ a b, allB_bit _ yo, Int.toNat_of_nonneg a, Bool.not_not]
      have key : (((rngL (find p (tu p) 6) (56 * tu p + goalP side 0)).all (noneAt (allB (takeQ p side))) && (rngL (56 * tu p + castF p side) (56 * tu p + goalP side 1)).all (noneAt (allB (takeQ p side))))
          && (rngL (find p (tu p) 6) (56 * tu p + goalP side 0)).all (safeP p (takeQ p side) (ofB p (1 - tu p) 6))) = okTo (badR p side) 8 := by
        rw [hg.1, hg.2]
        rw [Bool.eq_iff_iff, Bool.and_eq_true, Bool.and_eq_true, rng_all, rng_all, rng_all, okTo_iff]
        constructor
        · rintro ⟨⟨a1, a2⟩, a3⟩ i hi
          unfold badR badAt
          have x0 : 0 ≤ 56 * tu p + (i : Int) := by omega
          have x1 : 56 * tu p + (i : Int) < 64 := by omega
          have n1 : withinR (56 * tu p + (i : Int)) (find p (tu p) 6) (56 * tu p + (goR side).1) = true → kind (pb (takeQ p side) (56 * tu p + (i : Int))) = 0 ∧ safeR (takeQ p side) (56 * tu p + (i : Int)) = true := fun h => by
            obtain ⟨w1, w2⟩ := (within_iff _ _ _).1 h
            have b1 := a1 _ w1 w2
            have b3 := a3 _ w1 w2
            rw [hnone _ x0 x1] at b1
            rw [hsafe _ x0 x1] at b3
            exact ⟨of_decide_eq_true b1, b3⟩
          have n2 : withinR (56 * tu p + (i : Int)) (56 * tu p + castF p side) (56 * tu p + (goR side).2) = true → kind (pb (takeQ p side) (56 * tu p + (i : Int))) = 0 := fun h => by
            obtain ⟨w1, w2⟩ := (within_iff _ _ _).1 h
            have b1 := a2 _ w1 w2
            rw [hnone _ x0 x1] at b1
            exact of_decide_eq_true b1
          cases w : withinR (56 * tu p + (i : Int)) (find p (tu p) 6) (56 * tu p + (goR side).1) with
          | true =>
            obtain ⟨m1, m2⟩ := n1 w
            rw [m2, decide_eq_true m1]; rfl
          | false =>
            cases w2 : withinR (56 * tu p + (i : Int)) (56 * tu p + castF p side) (56 * tu p + (goR side).2) with
            | true => rw [decide_eq_true (n2 w2)]; rfl
            | false => rfl
        · intro h
          have at_ : ∀ s : Int, 56 * tu p ≤ s → s ≤ 56 * tu p + 7 → badAt p side s = false := fun s a b => by
            have := h (s - 56 * tu p).toNat yo
            unfold badR at this
            rw [show 56 * tu p + (((s - 56 * tu p).toNat : Nat) : Int) = s by omega] at this
            exact this
          have way : ∀ s : Int, min (find p (tu p) 6) (56 * tu p + (goR side).1) ≤ s → s ≤ max (find p (tu p) 6) (56 * tu p + (goR side).1) → (0 ≤ s ∧ s < 64) ∧ kind (pb (takeQ p side) s) = 0 ∧ safeR (takeQ p side) s = true := fun s a b => by
            have hb := at_ s yo yo
            unfold badAt at hb
            rw [(within_iff _ _ _).2 ⟨a, b⟩] at hb
            simp only [Bool.true_or, Bool.true_and, Bool.or_eq_false_iff, Bool.not_eq_false', decide_eq_true_eq] at hb
            exact ⟨by omega, hb⟩
          refine ⟨⟨fun s a b => ?_, fun s a b => ?_⟩, fun s a b => ?_⟩
          · obtain ⟨⟨x0, x1⟩, h2, -⟩ := way s a b
            rw [hnone _ x0 x1]; exact decide_eq_true h2
          · have hb := at_ s yo yo
            unfold badAt at hb
            rw [(within_iff s (56 * tu p + castF p side) _).2 ⟨a, b⟩] at hb
            simp only [Bool.or_true, Bool.true_and, Bool.or_eq_false_iff, Bool.not_eq_false', decide_eq_true_eq] at hb
            rw [hnone _ yo yo]; exact decide_eq_true hb.1
          · obtain ⟨⟨x0, x1⟩, -, h3⟩ := way s a b
            rw [hsafe _ x0 x1]; exact h3
      cases ho : okTo (badR p side) 8 with
      | true =>
        rw [ho] at key
        rw [if_pos rfl]
        exact ⟨key, fun _ => rfl⟩
      | false =>
        rw [ho] at key
        rw [if_neg (by simp)]
        exact ⟨key, fun h => by cases h⟩
theorem castle_ref : castleL p = list14 p := by
  have two : ∀ side : Int, (mayC p side).2.2 = false → ∀ l : List Mv, l ++ (if (mayC p side).2.2 = true then [castM (mayC p side)] else []) = l := fun side h l => by
    rw [h, if_neg (by simp), List.append_nil]
  have none2 : (mayC p 1).2.2 = false → (mayC p 0).2.2 = false → list14 p = [] := fun a b => by
    show (([] ++ (if (mayC p (1 - ((0 : Nat) : Int))).2.2 = true then _ else [])) ++ (if (mayC p (1 - ((1 : Nat) : Int))).2.2 = true then _ else [])) = []
    rw [show (1 : Int) - ((0 : Nat) : Int) = 1 from rfl, show (1 : Int) - ((1 : Nat) : Int) = 0 from rfl, two _ b, two _ a]
  by_cases hc : (decide (1 < tu p) || !castlesP (vr p)) = true
  · have : ∀ side, (mayC p side).2.2 = false := fun side => by unfold mayC; rw [if_pos hc]
    rw [castleL_a hc, none2 (this 1) (this 0)]
  · have hc := Bool.eq_false_iff.2 hc
    have ht : tu p ≤ 1 := Int.not_lt.1 (of_decide_eq_false (Bool.or_eq_false_iff.1 hc).1)
    by_cases h2 : (decide (castK p < 0) || !decide (castK p / 8 = 56 * tu p / 8)) = true
    · have : ∀ side, (mayC p side).2.2 = false := fun side => by
        unfold mayC; rw [if_neg (Bool.eq_false_iff.1 hc), if_pos (mayC1_of_home hp ht side h2)]
      rw [castleL_b hc h2, none2 (this 1) (this 0)]
    · have h2 := Bool.eq_false_iff.2 h2
      rw [castleL_c hc h2]
      have hk := home_of hp ht h2
      have step : ∀ (side : Int), 0 ≤ side → side ≤ 1 → (if (mayP p (castK p) side).2 = true then [(mayP p (castK p) side).1] else []) = (if (mayC p side).2.2 = true then [castM (mayC p side)] else []) := fun side a b => by
        obtain ⟨m1, m2⟩ := may_ref hp hc a b hk
        rw [castK_find hp, m1]
        cases e : (mayC p side).2.2 with
        | false => rfl
        | true => rw [if_pos rfl, if_pos rfl, m2 e]
      show (([] ++ (if (mayP p (castK p) 1).2 = true then [(mayP p (castK p) 1).1] else [])) ++ (if (mayP p (castK p) 0).2 = true then [(mayP p (castK p) 0).1] else [])) = _
      rw [step 1 yd yd, step 0 yd yd]
      rfl
theorem all_ref : allL p = allR p := by
  unfold allL allR
  rw [pseudo_ref hp, castle_ref hp, drop_ref hp, List.append_assoc]
end
end Go.Kw
set_option linter.unusedVariables false
namespace Go.Kw
theorem mv_ext {m n : Mv} (h1 : mF m = mF n) (h2 : mT m = mT n) (h3 : mP m = mP n) (h4 : mD m = mD n) (h5 : mC m = mC n) : m = n := by
  obtain ⟨a, b, c, d, e, _⟩ := m
  obtain ⟨a', b', c', d', e', _⟩ := n
  simp only [mF, mT, mP, mD, mC] at h1 h2 h3 h4 h5
  subst h1; subst h2; subst h3; subst h4; subst h5; rfl
theorem mem_list13 (p : Pos) (m : Mv) : m ∈ list13 p ↔ thereR p = true ∧ (0 ≤ mF m ∧ mF m < 64) ∧ (0 ≤ mT m ∧ mT m < 64) ∧ m ∈ mvsR p (mF m) (mT m) := by
  unfold list13
  cases ht : thereR p with
  | false => simp
  | true =>
    rw [if_neg (by simp)]
    unfold listI rowR
    simp only [List.mem_flatMap, List.mem_range]
    constructor
    · rintro ⟨a, ha, b, hb, h⟩
      have := mvsR_ok (p := p) (there_tu2 ht) ha hb h
      rw [this.1, this.2.1]
      exact ⟨trivial, by omega, by omega, h⟩
    · rintro ⟨-, h1, h2, h⟩
      refine ⟨(mF m).toNat, by omega, (mT m).toNat, by omega, ?_⟩
      rw [Int.toNat_of_nonneg h1.1, Int.toNat_of_nonneg h2.1]; exact h
theorem is_mem {p : Pos} {m : Mv} : isR p m = true ↔ m ∈ list13 p := by
  rw [mem_list13]
  constructor
  · intro h
    have hr := isR_rng h
    have hm := isR_may h
    unfold isR at h
    cases e : chR p m with
    | true => rw [if_pos e] at h; cases h
    | false =>
      rw [if_neg (by rw [e]; simp)] at h
      unfold chR at e
      simp only [Bool.or_eq_false_iff] at e
      have ht : thereR p = true := by have := e.1.1.1.1.1.1.1; simpa using this
      have hC : mC m = false := e.1.1.1.1.1.1.2
      have hD : mD m = 0 := by have := e.1.1.1.1.1.2; simpa using this
      refine ⟨ht, ⟨hr.1, hr.2.1⟩, ⟨hr.2.2.1, hr.2.2.2.1⟩, ?_⟩
      unfold mvsR
      rw [if_pos hm]
      split
      · rename_i h1
        rw [if_pos h1] at h
        rw [List.mem_singleton]
        exact mv_ext rfl rfl (of_decide_eq_true h) hD hC
      · rename_i h1
        rw [if_neg h1] at h
        have := of_decide_eq_true h
        rw [List.mem_map]
        exact ⟨mP m, this, mv_ext rfl rfl rfl hD.symm hC.symm⟩
  · rintro ⟨ht, h1, h2, h⟩
    have h' := h
    unfold mvsR at h
    split at h
    · rename_i hm
      have h3 : mD m = 0 ∧ mC m = false := by
        split at h
        · rw [List.mem_singleton] at h; rw [h]; exact ⟨rfl, rfl⟩
        · obtain ⟨x, -, e⟩ := List.mem_map.1 h; rw [← e]; exact ⟨rfl, rfl⟩
      have e : chR p m = false := by
        unfold chR
        rw [ht, h3.2, decide_eq_true h3.1, decide_eq_false (show ¬ mF m < 0 by omega), decide_eq_false (show ¬ 63 < mF m by omega), decide_eq_false (show ¬ mT m < 0 by omega), decide_eq_false (show ¬ 63 < mT m by omega), hm]; rfl
      unfold isR
      rw [if_neg (by rw [e]; simp)]
      split at h
      · rename_i h4
        rw [if_pos h4]
        rw [List.mem_singleton] at h
        exact decide_eq_true (by rw [h]; rfl)
      · rename_i h4
        rw [if_neg h4]
        obtain ⟨x, hx, e⟩ := List.mem_map.1 h
        refine decide_eq_true ?_
        rw [← e]; exact hx
    · cases h
theorem of_there (p : Pos) : (ofS p).2 = thereR p := by
  unfold ofS thereR
  by_cases h1 : 1 < tu p <;> by_cases h2 : 9 ≤ vr p
  · rw [decide_eq_true h1, if_pos (by rfl), decide_eq_false (show ¬ tu p < 2 by omega), Bool.and_false]
  · rw [decide_eq_true h1, if_pos (by rfl), decide_eq_false (show ¬ tu p < 2 by omega), Bool.and_false]
  · rw [decide_eq_true h2, if_pos (by simp), decide_eq_false (show ¬ vr p < 9 by omega), Bool.false_and]
  · rw [decide_eq_false h1, decide_eq_false h2, if_neg (by simp), decide_eq_true (show tu p < 2 by omega), decide_eq_true (show vr p < 9 by omega)]; rfl
theorem and_shl {b : BitVec 64} {x : Int} (h0 : 0 ≤ x) (h1 : x < 64) : (!decide (b &&& shlB x = 0#64)) = b.getLsbD x.toNat := by
  cases e : b.getLsbD x.toNat with
  | true =>
    rw [Bool.not_eq_true']
    refine decide_eq_false fun h => and_zero.1 h x.toNat yo e ?_
    rw [shlB_eq h0 h1 yo]; exact decide_eq_true yo
  | false =>
    rw [Bool.not_eq_false']
    refine decide_eq_true (and_zero.2 fun t ht a b' => ?_)
    rw [shlB_eq h0 h1 ht] at b'
    have := of_decide_eq_true b'
    rw [show t = x.toNat by omega, e] at a; cases a
section
variable {p : Pos} (hp : POK p)
include hp
theorem has_is (m : Mv) : hasM m (pseudoL p) = isR p m := by
  rw [pseudo_ref hp, Bool.eq_iff_iff, has_iff, is_mem]
theorem own_empty (ht : tu p ≤ 1) (s : Int) (h : ownR p s (tu p) = false) : ownR p s (1 - tu p) = !emptyR p s := by
  have h0 := hp.tu
  unfold ownR emptyR at *
  by_cases hk : kind (pb p s) = 0
  · rw [decide_eq_true hk]; rfl
  · rw [decide_eq_false hk] at *
    have := kind_c (x := pb p s) (hp.board s.toNat).1 hk
    have hn := of_decide_eq_false (show decide (pb p s / 8 = tu p) = false from h)
    rw [decide_eq_true (show pb p s / 8 = 1 - tu p by omega)]; rfl
theorem taken_ref (m : Mv) : takenP p m = takenR p m := by
  unfold takenP takenR
  rw [of_there, has_is hp]
  cases hi : isR p m with
  | false => rw [if_pos (by simp), if_pos (by rfl)]
  | true =>
    have hr := isR_rng hi
    have ht := hr.2.2.2.2
    have hth : thereR p = true := ((mem_list13 p m).1 (is_mem.1 hi)).1
    have h0 := hp.tu
    rw [hth, if_neg (show ¬ ((!true || !true) = true) by simp), if_neg (show ¬ ((!true) = true) by simp)]
    have hm := may_own (isR_may hi)
    have e1 : (!decide (ofB p (1 - tu p) 0 &&& shlB (mT m) = 0#64)) = !emptyR p (mT m) := by
      rw [and_shl hr.2.2.1 hr.2.2.2.1, own_bit p _ yo, Int.toNat_of_nonneg hr.2.2.1, own_empty hp ht _ hm.2.1]
    rw [e1]
    have e2 : aheadP (1 - tu p) (mT m) = mT m - upR (tu p) := by
      unfold aheadP upR
      by_cases e : tu p = 0
      · rw [if_pos yo, if_pos e]
      · rw [if_neg yo, if_neg e]; omega
    rw [e2]
theorem list13_mP {m : Mv} (h : m ∈ list13 p) : mP m ≤ 6 := by
  have h := ((mem_list13 p m).1 h).2.2.2
  unfold mvsR at h
  split at h
  · split at h
    · rw [List.mem_singleton] at h; rw [h]; show (0 : Int) ≤ 6; decide
    · obtain ⟨x, hx, e⟩ := List.mem_map.1 h
      have : x ≤ 6 := by
        unfold promP at hx
        split at hx
        · simp only [List.mem_cons, List.mem_nil_iff, or_false] at hx; omega
        · split at hx
          · simp only [List.mem_cons, List.mem_nil_iff, or_false] at hx; omega
          · cases hx
      rw [← e]; exact this
  · cases h
end
/-- What a move of the list is. -/
structure Lm (p : Pos) (m : Mv) : Prop extends LMv p m where
  p6 : mP m ≤ 6
  cast : mC m = true → mD m = 0 ∧ mP m = 0 ∧ isAt p (mF m) (tu p) 6 = true ∧ ¬ mF m = mT m ∧ (56 * tu p ≤ mF m ∧ mF m ≤ 56 * tu p + 7) ∧ 56 * tu p ≤ mT m ∧ mT m ≤ 56 * tu p + 7
theorem list14_cast {p : Pos} (hp : POK p) {m : Mv} (h : m ∈ list14 p) : isAt p (mF m) (tu p) 6 = true ∧ ¬ mF m = mT m ∧ (56 * tu p ≤ mF m ∧ mF m ≤ 56 * tu p + 7) ∧ 56 * tu p ≤ mT m ∧ mT m ≤ 56 * tu p + 7 := by
  have key : ∀ side : Int, m ∈ (if (mayC p side).2.2 = true then [castM (mayC p side)] else []) → isAt p (mF m) (tu p) 6 = true ∧ ¬ mF m = mT m ∧ (56 * tu p ≤ mF m ∧ mF m ≤ 56 * tu p + 7) ∧ 56 * tu p ≤ mT m ∧ mT m ≤ 56 * tu p + 7 := fun side h => by
    split at h
    · rename_i hc
      rw [List.mem_singleton] at h; subst h
      unfold mayC at hc ⊢
      split at hc
      · cases hc
      · split at hc
        · cases hc
        · split at hc
          · cases hc
          · split at hc
            · rename_i n1 n2 n3 n4
              rw [if_neg n1, if_neg n2, if_neg n3, if_pos n4]
              have hF := cast_rng (Bool.eq_false_iff.2 n2)
              have h0 := hp.tu
              have hkk := find_at (p := p) (c := tu p) (k := 6) yd yo
              have h3 := Bool.eq_false_iff.2 n3
              unfold mayC2 at h3
              have hr := (Bool.or_eq_false_iff.1 (Bool.or_eq_false_iff.1 h3).1).1
              have hr : isAt p (56 * tu p + castF p side) (tu p) 4 = true := by simpa using hr
              refine ⟨hkk, fun e => ?_, ⟨hF.1, hF.2.1⟩, ?_, ?_⟩
              · have e : find p (tu p) 6 = 56 * tu p + castF p side := e
                rw [← e] at hr
                have k4 := of_decide_eq_true (Bool.and_eq_true_iff.1 hr).1
                have k6 := of_decide_eq_true (Bool.and_eq_true_iff.1 hkk).1
                omega
              · show 56 * tu p ≤ 56 * tu p + castF p side; omega
              · show 56 * tu p + castF p side ≤ 56 * tu p + 7; omega
            · cases hc
    · cases h
  rcases List.mem_append.1 (show m ∈ ([] ++ _) ++ _ from h) with h | h
  · rcases List.mem_append.1 h with h | h
    · cases h
    · exact key 1 h
  · exact key 0 h
theorem allR_lm {p : Pos} (hp : POK p) {m : Mv} (h : m ∈ allR p) : MOK m ∧ Lm p m := by
  have h1 := allR_mem hp h
  refine ⟨h1.1, h1.2, ?_, fun hc => ?_⟩
  · rcases List.mem_append.1 h with h | h
    · rcases List.mem_append.1 h with h | h
      · exact list13_mP hp h
      · have := (list14_ok hp h).2.2.2.2.2; omega
    · have := (list15_ok h).2.2.2.2.2; omega
  · rcases List.mem_append.1 h with h | h
    · rcases List.mem_append.1 h with h | h
      · have := (list13_ok h).2.2.2.2.1; rw [hc] at this; cases this
      · have ho := list14_ok hp h
        exact ⟨ho.2.2.2.1, ho.2.2.2.2.2, list14_cast hp h⟩
    · have := (list15_ok h).2.2.2.2.1; rw [hc] at this; cases this
/-- The same variant, side and clocks. -/
structure Fr (p q : Pos) : Prop where
  v : vr q = vr p
  t : tu q = tu p
  h : hf q = hf p
  f : fl q = fl p
theorem Fr.rfl' (p : Pos) : Fr p p := ⟨rfl, rfl, rfl, rfl⟩
theorem Fr.put {p q : Pos} (h : Fr p q) (i v : Int) : Fr p (putB q i v) := ⟨h.v, h.t, h.h, h.f⟩
theorem Fr.setPk {p q : Pos} (h : Fr p q) (c k x : Int) : Fr p (setPk q c k x) := ⟨h.v, h.t, h.h, h.f⟩
theorem Fr.setPm {p q : Pos} (h : Fr p q) (b : BitVec 64) : Fr p (setPm q b) := ⟨h.v, h.t, h.h, h.f⟩
theorem Fr.setRkR {p q : Pos} (h : Fr p q) (c : Int) (r : List (El i8)) : Fr p (setRkR q c r) := ⟨h.v, h.t, h.h, h.f⟩
theorem Fr.setPg {p q : Pos} (h : Fr p q) (x : Int) : Fr p (setPg q x) := ⟨h.v, h.t, h.h, h.f⟩
theorem side_ref (p : Pos) (hp : POK p) (m : Mv) : sideP p m = sideR p m := by
  have h0 := hp.tu
  unfold sideP sideR
  by_cases h1 : ((decide (1 < tu p) || !mC m) || decide (mF m = mT m)) = true
  · rw [if_pos h1, if_pos (by rw [h1]; rfl)]
  · rw [if_neg h1]
    have h1' := Bool.eq_false_iff.2 h1
    have ht : tu p ≤ 1 := Int.not_lt.1 (of_decide_eq_false (Bool.or_eq_false_iff.1 (Bool.or_eq_false_iff.1 h1').1).1)
    rw [h1']
    have e : (inHome p (mF m) && inHome p (mT m)) = !((((((false || decide (mF m < 0)) || decide (63 < mF m)) || decide (mT m < 0)) || decide (63 < mT m)) || !decide (mF m / 8 = 7 * tu p)) || !decide (mT m / 8 = 7 * tu p)) := by
      unfold inHome
      rw [Bool.eq_iff_iff]
      simp only [Bool.and_eq_true, Bool.not_eq_true', Bool.or_eq_false_iff, Bool.not_eq_false', decide_eq_false_iff_not, decide_eq_true_eq]
      constructor
      · rintro ⟨⟨a, b⟩, c, d⟩
        refine ⟨⟨⟨⟨⟨⟨trivial, ?_⟩, ?_⟩, ?_⟩, ?_⟩, ?_⟩, ?_⟩ <;> omega
      · rintro ⟨⟨⟨⟨⟨⟨-, a⟩, b⟩, c⟩, d⟩, e⟩, f⟩
        refine ⟨⟨?_, ?_⟩, ?_, ?_⟩ <;> omega
    rw [e]
    cases ((((((false || decide (mF m < 0)) || decide (63 < mF m)) || decide (mT m < 0)) || decide (63 < mT m)) || !decide (mF m / 8 = 7 * tu p)) || !decide (mT m / 8 = 7 * tu p)) with
    | true => rfl
    | false =>
      rw [if_pos (by rfl), if_neg (show ¬ (false = true) by simp)]
      by_cases h : mF m < mT m
      · rw [if_pos h, if_pos (decide_eq_true h)]
      · rw [if_neg h, if_neg (by rw [decide_eq_false h]; simp)]
section
variable {p : Pos} {m : Mv} (hp : POK p) (hL : Lm p m)
include hp hL
theorem side_pos (hc : mC m = true) : 0 ≤ sideR p m ∧ sideR p m ≤ 1 := by
  obtain ⟨-, -, -, hne, hF, hT⟩ := hL.cast hc
  have h0 := hp.tu
  have ht := hL.t
  rw [← side_ref p hp]
  unfold sideP
  rw [if_neg (by rw [decide_eq_false (show ¬ 1 < tu p by omega), hc, decide_eq_false hne]; simp), if_pos]
  · split <;> decide
  · unfold inHome
    rw [decide_eq_false (show ¬ mF m - 56 * tu p < 0 by omega), decide_eq_false (show ¬ 7 < mF m - 56 * tu p by omega), decide_eq_false (show ¬ mT m - 56 * tu p < 0 by omega), decide_eq_false (show ¬ 7 < mT m - 56 * tu p by omega)]; rfl
theorem goals_ref (hc : mC m = true) : goalsP p m = (56 * tu p + (goR (sideR p m)).1, 56 * tu p + (goR (sideR p m)).2, true) := by
  have hs := side_pos hp hL hc
  unfold goalsP
  rw [side_ref p hp, if_neg yo]
  have hg := goal_go ⟨(sideR p m).toNat, by omega⟩
  simp only [Int.toNat_of_nonneg hs.1] at hg
  rw [hg.1, hg.2]
theorem men_ref (tk : Int) : menQ p p m tk = menR p m tk := by
  have h0 := hp.tu
  have ht := hL.t
  unfold menQ menR
  cases hc : mC m with
  | true => rw [if_pos rfl, if_pos rfl, goals_ref hp hL hc]
  | false =>
    rw [if_neg (show ¬ (false = true) by simp), if_neg (show ¬ (false = true) by simp)]
    by_cases hd : (!decide (mD m = 0)) = true
    · rw [if_pos hd, if_pos hd]
      have hD := hL.d (ndec hd)
      have e : takeP p (tu p) (mD m) = (setPk p (tu p) (mD m) (pkAt p (tu p) (mD m) - 1), true) := by
        unfold takeP
        rw [if_neg]
        rw [decide_eq_true (show tu p ≤ 1 from ht), decide_eq_true hD.1.1, decide_eq_true hD.1.2, decide_eq_false (show ¬ pkAt p (tu p) (mD m) = 0 by omega)]; simp
      rw [e]
      show putB _ _ (makeP (tu p) (mD m)) = _
      have : makeP (tu p) (mD m) = 8 * tu p + mD m := by unfold makeP; rw [if_neg yo]
      rw [this]
    · rw [if_neg hd, if_neg hd]
      unfold men3 men3r
      have h1 : tu (men1 p tk) = tu p := by unfold men1; split <;> rfl
      have h2 : tu (men2 (men1 p tk) p m) = tu p := h1
      rw [h2]
      by_cases hpz : (!decide (mP m = 0)) = true
      · rw [if_pos hpz, if_pos hpz]
        have := ndec hpz
        have h6 := hL.p6
        have h7 := hL.pr
        have : makeP (tu p) (mP m) = 8 * tu p + mP m := by unfold makeP; rw [if_neg yo]
        rw [this]
      · rw [if_neg hpz, if_neg hpz]
omit hp hL in
theorem Fr_men (tk : Int) : Fr p (menR p m tk) ∧ pm (menR p m tk) = pm p := by
  have f0 := Fr.rfl' p
  unfold menR
  split
  · exact ⟨(((f0.put _ _).put _ _).put _ _).put _ _, rfl⟩
  · split
    · exact ⟨(f0.setPk _ _ _).put _ _, rfl⟩
    · have h1 : Fr p (men1 p tk) ∧ pm (men1 p tk) = pm p := by
        unfold men1; split
        · exact ⟨f0.put _ _, rfl⟩
        · exact ⟨f0, rfl⟩
      unfold men3r; split
      · exact ⟨((h1.1.put _ _).put _ _).put _ _, h1.2⟩
      · exact ⟨(h1.1.put _ _).put _ _, h1.2⟩
end
end Go.Kw
set_option linter.unusedVariables false
namespace Go.Kw
section
variable {p : Pos} {m : Mv} (hp : POK p) (hL : Lm p m)
include hp hL
theorem kindOf_pawn : decide (kindOf p m = 1) = pawnM p m := by
  unfold kindOf pawnM
  by_cases hd : mD m = 0
  · rw [decide_eq_true hd, if_neg (by simp), decide_eq_false (show ¬ mD m = 1 by omega)]; simp
  · rw [decide_eq_false hd, if_pos (by rfl)]; simp
omit hp in
theorem marks_ref {tk : Int} (htk : -1 ≤ tk ∧ tk < 64) : setOf (markF p m tk) 64 = (if 0 ≤ tk then pm p &&& ~~~shlB tk else pm p) &&& ~~~shlB (mF m) := by
  have hF := hL.f
  apply BitVec.eq_of_getLsbD_eq
  intro t ht
  rw [setOf_bit _ 64 t (Nat.le_refl _), decide_eq_true ht, Bool.true_and, BitVec.getLsbD_and, BitVec.getLsbD_not, shlB_eq hF.1 hF.2 ht]
  unfold markF
  rw [bitAt_get _ yo yo, Int.toNat_natCast]
  simp only [ht, decide_true, Bool.true_and]
  congr 1
  split
  · rename_i h0
    rw [BitVec.getLsbD_and, BitVec.getLsbD_not, shlB_eq h0 htk.2 ht]
    simp only [ht, decide_true, Bool.true_and]
  · rename_i h0
    rw [decide_eq_false (show ¬ (t : Int) = tk by omega)]; simp
theorem pocket_ref {q : Pos} (hf : Fr p q) (hpm : pm q = pm p) {tk : Int} (htk : -1 ≤ tk ∧ tk < 64) : pocketQ q p m tk = pocketR p q m tk := by
  have ht := hL.t
  unfold pocketQ pocketR
  rw [hf.v, hpm]
  by_cases h1 : (!decide (vr p = 2) || !decide (mD m = 0)) = true
  · rw [if_pos h1, if_pos h1]
  · rw [if_neg h1, if_neg h1]
    cases hc : mC m with
    | true => rw [if_pos rfl, if_pos rfl, goals_ref hp hL hc]
    | false =>
      rw [if_neg (show ¬ (false = true) by simp), if_neg (show ¬ (false = true) by simp)]
      have e2 : pkt2 q p tk = setPm (pk2 p q tk) (if 0 ≤ tk then pm p &&& ~~~shlB tk else pm p) := by
        unfold pkt2 pk2
        by_cases h0 : 0 ≤ tk
        · rw [if_pos (decide_eq_true h0), if_pos (decide_eq_true h0), if_pos h0]
          have e : addP q (tu q) (pkt1 p tk) = (if ((decide (1 ≤ pkt1 p tk) && decide (pkt1 p tk ≤ 5)) && decide (pkAt q (tu p) (pkt1 p tk) < 255)) = true then setPk q (tu p) (pkt1 p tk) (pkAt q (tu p) (pkt1 p tk) + 1) else q) := by
            unfold addP
            rw [hf.t, decide_eq_true (show tu p ≤ 1 from ht), Bool.true_and]
          have epm : pm (addP q (tu q) (pkt1 p tk)) = pm p := by
            rw [e]; split
            · exact hpm
            · exact hpm
          rw [epm, e]
        · rw [if_neg (by simpa using h0), if_neg (by simpa using h0), if_neg h0, ← hpm]; rfl
      unfold pkt4 pkt3 mk2
      rw [e2, marks_ref hL htk]
      split <;> rfl
omit hL in
theorem Fr_pocket {q : Pos} (hf : Fr p q) (m : Mv) (tk : Int) : Fr p (pocketR p q m tk) := by
  unfold pocketR
  split
  · exact hf
  · split
    · split
      · exact (hf.setPm _).setPm _
      · exact hf
    · refine Fr.setPm ?_ _
      unfold pk2; split
      · split
        · exact hf.setPk _ _ _
        · exact hf
      · exact hf
omit hL hp in
theorem blown_ref {q : Pos} (hq : POK q) {s : Int} (h0 : 0 ≤ s) (h1 : s < 64) : blownB q s = blownR q s := by
  unfold blownB blownR
  rw [if_neg (by rw [decide_eq_false (show ¬ s < 0 by omega), decide_eq_false (show ¬ 64 ≤ s by omega)]; simp)]
  apply BitVec.eq_of_getLsbD_eq
  intro t ht
  rw [setOf_bit _ 64 t (Nat.le_refl _), decide_eq_true ht, Bool.true_and, BitVec.getLsbD_or, shlB_eq h0 h1 ht]
  show ((((kingB s &&& allB q) &&& ~~~ofB q 0 1) &&& ~~~ofB q 1 1).getLsbD t || _) = _
  rw [BitVec.getLsbD_and, BitVec.getLsbD_and, BitVec.getLsbD_and, BitVec.getLsbD_not, BitVec.getLsbD_not, (kingB_b h0 h1 ht).1, ← (kingB_b h0 h1 ht).2, allB_bit q ht, ofB_kind q 0 yd ht, ofB_kind q 1 yd ht]
  simp only [ht, decide_true, Bool.true_and]
  unfold blF isAt
  rw [Bool.or_comm]
  congr 1
  by_cases hk : kind (pb q (t : Int)) = 0
  · rw [decide_eq_true hk]; simp
  · have hc := kind_c (x := pb q (t : Int)) (hq.board t).1 hk
    rw [decide_eq_false hk]
    by_cases hk1 : kind (pb q (t : Int)) = 1
    · rw [decide_eq_true hk1]
      rcases hc with h | h <;> rw [h] <;> simp
    · rw [decide_eq_false hk1]; simp
omit hp hL in
theorem blow_fold (q : Pos) (b : BitVec 64) : (show List Int from bitsOf b).foldl (fun q s => putB q s 0) q = blowTo q b 64 := by
  rw [bitsOf_from 64 0 b rfl (by intro j hj; omega)]
  show (List.map _ (List.filter _ (List.range' 0 64))).foldl _ q = _
  rw [← List.range_eq_range']
  have key : ∀ n : Nat, n ≤ 64 → (((List.range n).filter fun i => b.getLsbD i).map fun i => ((i : Nat) : Int)).foldl (fun q s => putB q s 0) q = blowTo q b n := by
    intro n
    induction n with
    | zero => exact fun _ => rfl
    | succ n ih =>
      intro hn
      rw [List.range_succ, List.filter_append, List.map_append, List.foldl_append, ih yo, blowTo, bitAt_get _ yo yo, Int.toNat_natCast]
      cases h : b.getLsbD n with
      | true => rw [if_pos rfl]; simp [h]
      | false => rw [if_neg (by simp)]; simp [h]
  exact key 64 (Nat.le_refl _)
omit hp hL in
theorem Fr_blow {q : Pos} (hf : Fr p q) (b : BitVec 64) : ∀ n, Fr p (blowTo q b n)
  | 0 => hf
  | n + 1 => by
    rw [blowTo]; split
    · exact (Fr_blow hf b n).put _ _
    · exact Fr_blow hf b n
omit hp hL in
theorem rkAt_row (q : Pos) (c : Int) (j : Nat) : rkAt q c (j : Int) = (show List Int from rkRow q c).getD ((j : Nat) : Int).toNat 0 := rfl
omit hp hL in
theorem rk_other {q : Pos} (hq : POK q) (c : Int) (c0 : 0 ≤ c) (c1 : c ≤ 1) (x : Int) : rkAt (setRk q c 0 x) c 1 = rkAt q c 1 := by
  have hl : (show List (List Int) from q.2.2.2.2.2.1).length = 2 := hq.wf.2.2.2.2.2.1.1
  show ((List.set (show List (List Int) from q.2.2.2.2.2.1) c.toNat (List.set (show List Int from rkRow q c) (0 : Int).toNat x)).getD c.toNat (List.replicate 2 0)).getD 1 0 = (show List Int from rkRow q c).getD 1 0
  have e : (List.set (show List (List Int) from q.2.2.2.2.2.1) c.toNat (List.set (show List Int from rkRow q c) (0 : Int).toNat x)).getD c.toNat (List.replicate 2 0) = List.set (show List Int from rkRow q c) 0 x := by
    rw [List.getD_eq_getElem?_getD, List.getElem?_set_self (by rw [hl]; omega)]; rfl
  rw [e, List.getD_eq_getElem?_getD, List.getElem?_set_ne yd, ← List.getD_eq_getElem?_getD]
omit hp hL in
theorem gone_ref {q : Pos} (hq : POK q) (m : Mv) (tk : Int) {c king f : Int} (c0 : 0 ≤ c) (c1 : c ≤ 1) (k0 : -1 ≤ king) (k1 : king < 64) : rtG m tk q c king f = goneR m tk q c king f := by
  have hm : makeP c 4 = 8 * c + 4 := by unfold makeP; rw [if_neg yo]
  have hi : decide (pb q (56 * c + f) = makeP c 4) = isAt q (56 * c + f) c 4 := by
    rw [hm, rook_piece (x := pb q (56 * c + f)) (hq.board _).1 c0 c1]; rfl
  unfold rtG goneR
  rw [hi]
  by_cases h : king < 56 * c ∨ 56 * c + 7 < king
  · have e1 : (decide (king < 56 * c) || decide (56 * c + 7 < king)) = true := by simpa using h
    have e2 : (decide (king < 0) || !decide (king / 8 = 7 * c)) = true := by
      simp only [Bool.or_eq_true, decide_eq_true_eq, Bool.not_eq_true', decide_eq_false_iff_not]; omega
    rw [e1, Bool.or_assoc (_ || _) (decide (king < 0)), e2]; simp
  · have e1 : (decide (king < 56 * c) || decide (56 * c + 7 < king)) = false := by simpa using h
    have e2 : (decide (king < 0) || !decide (king / 8 = 7 * c)) = false := by
      simp only [Bool.or_eq_false_iff, decide_eq_false_iff_not, Bool.not_eq_false', decide_eq_true_eq]; omega
    rw [e1, Bool.or_assoc (_ || _) (decide (king < 0)), e2]
    cases decide (tk = 56 * c + f) <;> cases (decide (mD m = 0) && decide (mF m = 56 * c + f)) <;> cases isAt q (56 * c + f) c 4 <;> rfl
omit hp hL in
theorem rj_ref {q : Pos} (hq : POK q) (m : Mv) (tk : Int) {c : Int} (c0 : 0 ≤ c) (c1 : c ≤ 1) : rtJ m tk q c 2 = rrJ m tk q c 2 := by
  have hk := find_rng q c 6
  have one : ∀ (r : Pos) (j : Nat), POK r → rkAt r c (j : Int) = rkAt q c (j : Int) → rtSide m tk c (firstB (ofB q c 6)) (rkRow q c) r j = rrSide m tk c (find q c 6) r j := fun r j hr e => by
    unfold rtSide rrSide
    rw [e, rkAt_row, find_first q c yd, gone_ref hr m tk c0 c1 hk.1 hk.2]
  have s0 : rtJ m tk q c 1 = rrJ m tk q c 1 := one q 0 hq rfl
  show rtSide m tk c (firstB (ofB q c 6)) (rkRow q c) (rtJ m tk q c 1) 1 = rrSide m tk c (find q c 6) (rrJ m tk q c 1) 1
  rw [s0]
  refine one _ 1 (POK_rrJ hq m tk c 1) ?_
  show rkAt (rrSide m tk c (find q c 6) q 0) c 1 = rkAt q c 1
  unfold rrSide
  split
  · rfl
  · split
    · exact rk_other hq c c0 c1 _
    · rfl
omit hL in
theorem rights_ref {q : Pos} (hq : POK q) (hf : Fr p q) (m : Mv) (tk : Int) : rightsQ q p m tk = rightsR p q m tk := by
  have e1 : rt1 q p m = rr1 p q m := by
    unfold rt1 rr1 kindOf
    rw [hf.t]
    by_cases hd : mD m = 0
    · rw [decide_eq_true hd, if_neg (show ¬ ((!true) = true) by simp), Bool.and_true, Bool.true_and]
    · rw [decide_eq_false hd, Bool.and_false, Bool.false_and]
  have h1 := POK_rr1 (p := p) hq m
  unfold rightsQ rightsR
  rw [e1]
  show rtJ m tk (rtJ m tk (rr1 p q m) (0 : Nat) 2) (1 : Nat) 2 = rrJ m tk (rrJ m tk (rr1 p q m) (0 : Nat) 2) (1 : Nat) 2
  rw [rj_ref h1 m tk yd yd, rj_ref (POK_rrJ h1 m tk _ 2) m tk yd yd]
omit hp hL in
theorem Fr_rrJ {q : Pos} (hf : Fr p q) (m : Mv) (tk c : Int) : ∀ j, Fr p (rrJ m tk q c j)
  | 0 => hf
  | j + 1 => by
    have ih := Fr_rrJ hf m tk c j
    rw [rrJ, rrSide]
    split
    · exact ih
    · split
      · exact ih.setRkR _ _
      · exact ih
omit hL hp in
theorem Fr_rights {q : Pos} (hf : Fr p q) (m : Mv) (tk : Int) : Fr p (rightsR p q m tk) := by
  have h1 : Fr p (rr1 p q m) := by
    unfold rr1; split
    · exact hf.setRkR _ _
    · exact hf
  show Fr p (rrJ m tk (rrJ m tk (rr1 p q m) ((0 : Nat) : Int) 2) ((1 : Nat) : Int) 2)
  exact Fr_rrJ (Fr_rrJ h1 m tk _ 2) m tk _ 2
theorem pass_ref {q : Pos} (hq : POK q) (hf : Fr p q) : passQ q p m = setPg q (passR p q m) := by
  have h0 := hp.tu
  have ht := hL.t
  have hF := hL.f
  have hT := hL.to
  have hco : (decide (mD m = 0) && mC m) = true → ¬ kind (pb p (mF m)) = 1 := fun h => by
    have hi := (hL.cast (Bool.and_eq_true_iff.1 h).2).2.2.1
    have := of_decide_eq_true (Bool.and_eq_true_iff.1 hi).1
    omega
  unfold passQ passR
  by_cases hd : mD m = 0
  · have hk : kindOf p m = kind (pb p (mF m)) := by unfold kindOf; rw [if_neg (by simpa using hd)]
    rw [hk, hf.t]
    by_cases hk1 : kind (pb p (mF m)) = 1
    · have hc : mC m = false := by
        cases e : mC m with
        | false => rfl
        | true => exact absurd hk1 (hco (by rw [decide_eq_true hd, e]; rfl))
      rw [if_neg (show ¬ ((!decide (mD m = 0) || mC m) || !decide (kind (pb p (mF m)) = 1)) = true by rw [decide_eq_true hd, hc, decide_eq_true hk1]; simp)]
      have hup : upR (tu p) = if tu p = 0 then 8 else -8 := rfl
      have hrk : rankR (tu p) (mF m) = if tu p = 0 then mF m / 8 else 7 - mF m / 8 := rfl
      by_cases hg : mT m = mF m + 2 * upR (tu p) ∧ rankR (tu p) (mF m) = 1
      · rw [if_neg (show ¬ ((!decide (kind (pb p (mF m)) = 1) || !decide (mD m = 0)) || (!decide (mT m - mF m = 16) && !decide (mF m - mT m = 16))) = true by
            rw [decide_eq_true hk1, decide_eq_true hd]
            have : mT m - mF m = 16 ∨ mF m - mT m = 16 := by
              rw [hup] at hg; split at hg <;> omega
            rcases this with h | h
            · rw [decide_eq_true h]; simp
            · rw [decide_eq_true h]; simp),
          if_neg (show ¬ (!decide (mF m / 8 = 7 * tu p + 1) && !decide (mF m / 8 = 7 * tu p - 1)) = true by
            have : mF m / 8 = 7 * tu p + 1 ∨ mF m / 8 = 7 * tu p - 1 := by
              rw [hrk] at hg; split at hg <;> omega
            rcases this with h | h
            · rw [decide_eq_true h]; simp
            · rw [decide_eq_true h]; simp),
          if_neg (show ¬ (!decide (mT m = mF m + 2 * upR (tu p)) || !decide (rankR (tu p) (mF m) = 1)) = true by rw [decide_eq_true hg.1, decide_eq_true hg.2]; simp)]
        have hmid : (mF m + mT m) / 2 = mF m + upR (tu p) := by rw [hg.1]; omega
        have hm64 : 0 ≤ mF m + upR (tu p) ∧ mF m + upR (tu p) < 64 := by
          have := hg.1; have := upR_val (tu p); omega
        rw [hmid]
        have e : (!decide (pawnB (tu p) (mF m + upR (tu p)) &&& ofB (setPg q (-1)) (1 - tu p) 1 = 0#64)) = !okTo (passF p q m) 64 := by
          have hbit : ∀ t : Nat, t < 64 → ((pawnB (tu p) (mF m + upR (tu p))).getLsbD t = true ∧ (ofB (setPg q (-1)) (1 - tu p) 1).getLsbD t = true ↔ passF p q m t = true) := fun t h => by
            have hb := pawnB_b hm64.1 hm64.2 h h0.1 ht
            rw [hb.1, ofB_kind _ _ yd h]
            unfold passF
            have ei : isAt (setPg q (-1)) (t : Int) (1 - tu p) 1 = isAt q (t : Int) (1 - tu p) 1 := rfl
            rw [ei, Bool.and_eq_true]
            constructor
            · rintro ⟨a, b⟩
              refine ⟨b, ?_⟩
              obtain ⟨b1, b2⟩ := Bool.and_eq_true_iff.1 b
              rw [hits_eq, if_pos (of_decide_eq_true b1), of_decide_eq_true b2, hb.2]; exact a
            · rintro ⟨b, a⟩
              refine ⟨?_, b⟩
              obtain ⟨b1, b2⟩ := Bool.and_eq_true_iff.1 b
              rw [hits_eq, if_pos (of_decide_eq_true b1), of_decide_eq_true b2, hb.2] at a; exact a
          congr 1
          rw [Bool.eq_iff_iff, decide_eq_true_eq, and_zero, okTo_iff]
          constructor
          · intro h t ht64
            cases e : passF p q m t with
            | false => rfl
            | true => exact (h t ht64 ((hbit t ht64).2 e).1 ((hbit t ht64).2 e).2).elim
          · intro h t ht64 a b
            have := (hbit t ht64).1 ⟨a, b⟩
            rw [h t ht64] at this; cases this
        rw [e]
        cases okTo (passF p q m) 64 <;> rfl
      · rw [if_pos (show (!decide (mT m = mF m + 2 * upR (tu p)) || !decide (rankR (tu p) (mF m) = 1)) = true by
          simp only [Bool.or_eq_true, Bool.not_eq_true', decide_eq_false_iff_not]
          by_cases a : mT m = mF m + 2 * upR (tu p)
          · exact .inr fun b => hg ⟨a, b⟩
          · exact .inl a)]
        by_cases h1 : ((!decide (kind (pb p (mF m)) = 1) || !decide (mD m = 0)) || (!decide (mT m - mF m = 16) && !decide (mF m - mT m = 16))) = true
        · rw [if_pos h1]
        · rw [if_neg h1, if_pos]
          have h1 := Bool.eq_false_iff.2 h1
          simp only [Bool.or_eq_false_iff, Bool.and_eq_false_iff, Bool.not_eq_false', decide_eq_true_eq] at h1
          simp only [Bool.and_eq_true, Bool.not_eq_true', decide_eq_false_iff_not]
          rw [hup, hrk] at hg
          split at hg <;> (constructor <;> omega)
    · rw [if_pos (by rw [decide_eq_false hk1]; simp), if_pos (by rw [decide_eq_false hk1]; simp)]
  · rw [if_pos (by rw [decide_eq_false hd]; simp), if_pos (by rw [decide_eq_false hd]; simp)]
theorem clocks_ref {q : Pos} (hf : Fr p q) : clocksQ (setPg q (passR p q m)) p m (takenR p m) = md8 p m q := by
  have f5 : Fr p (setPg q (passR p q m)) := hf.setPg _
  unfold clocksQ clk3 md8
  have e2 : clk2 (setPg q (passR p q m)) p m (takenR p m) = md7 p m q := by
    unfold clk2 md7 md5
    rw [kindOf_pawn hp hL, f5.h]
  have ht7 : tu (clk2 (setPg q (passR p q m)) p m (takenR p m)) = tu p := (tu_clk2 _ _ _ _).trans f5.t
  have hf7 : fl (clk2 (setPg q (passR p q m)) p m (takenR p m)) = fl p := (fl_clk2 _ _ _ _).trans f5.f
  rw [ht7, hf7, e2]
theorem tu_md8 {q : Pos} (hf : Fr p q) : tu (md8 p m q) = tu p := by
  have f5 : Fr p (setPg q (passR p q m)) := hf.setPg _
  have h7 : tu (md7 p m q) = tu p := by unfold md7 md5; split <;> exact f5.t
  unfold md8; split
  · exact h7
  · exact h7
theorem turn_ref {q : Pos} (hm : MOK m) (hq : POK q) (hf : Fr p q) : turnQ (md8 p m q) = mdE p (md9 p m q) := by
  have h0 := hp.tu
  have ht := hL.t
  have h8 := tu_md8 hp hL (q := q) hf
  have hp9 : POK (md9 p m q) := POK_md9 hp hL.toLMv hq
  unfold turnQ mdE
  rw [h8, show 1 - (1 - tu p) = tu p by omega]
  have ec : checkP (setTu (md8 p m q) (1 - tu p)) (1 - tu p) = refCheck (md9 p m q) (tu (md9 p m q)) := check_ref hp9 (c := 1 - tu p) yo yo
  rw [ec]; rfl
end
theorem made_ref {p : Pos} (hp : POK p) {m : Mv} (h : m ∈ allR p) : madeP p m = madeR p m := by
  obtain ⟨hm, hL⟩ := allR_lm hp h
  have htk := takenR_rng hp m
  have hF1 := Fr_men (p := p) (m := m) (takenR p m)
  have e1 : stepQ p m (takenR p m) 1 = menR p m (takenR p m) := men_ref hp hL _
  have p1 : POK (menR p m (takenR p m)) := POK_menR hp hm hL.toLMv _
  have e2 : stepQ p m (takenR p m) 2 = md2 p m := by
    show pocketQ (stepQ p m (takenR p m) 1) p m (takenR p m) = _
    rw [e1]; exact pocket_ref hp hL hF1.1 hF1.2 htk
  have p2 : POK (md2 p m) := POK_pocketR p1 m _
  have f2 : Fr p (md2 p m) := Fr_pocket hp hF1.1 m _
  have e3 : stepQ p m (takenR p m) 3 = md3 p m := by
    show blowQ (stepQ p m (takenR p m) 2) m (takenR p m) = _
    rw [e2]
    unfold blowQ md3
    rw [f2.v, blow_fold, blown_ref p2 hL.to.1 hL.to.2]
    by_cases hv : vr p = 3
    · by_cases h0 : 0 ≤ takenR p m
      · rw [decide_eq_true hv, decide_eq_false (show ¬ takenR p m < 0 by omega), decide_eq_true h0]; rfl
      · rw [decide_eq_true hv, decide_eq_true (show takenR p m < 0 by omega), decide_eq_false h0]; rfl
    · rw [decide_eq_false hv]; rfl
  have p3 : POK (md3 p m) := POK_md3 hp hm hL.toLMv
  have f3 : Fr p (md3 p m) := by
    unfold md3; split
    · exact Fr_blow f2 _ _
    · exact f2
  have e4 : stepQ p m (takenR p m) 4 = md4 p m := by
    show rightsQ (stepQ p m (takenR p m) 3) p m (takenR p m) = _
    rw [e3]; exact rights_ref hp p3 f3 m _
  have p4 : POK (md4 p m) := POK_rightsR p3 m _
  have f4 : Fr p (md4 p m) := Fr_rights f3 m _
  have e5 : stepQ p m (takenR p m) 5 = setPg (md4 p m) (passR p (md4 p m) m) := by
    show passQ (stepQ p m (takenR p m) 4) p m = _
    rw [e4]; exact pass_ref hp hL p4 f4
  have e6 : stepQ p m (takenR p m) 6 = md8 p m (md4 p m) := by
    show clocksQ (stepQ p m (takenR p m) 5) p m (takenR p m) = _
    rw [e5]; exact clocks_ref hp hL f4
  unfold madeP madeR
  rw [taken_ref hp]
  show turnQ (stepQ p m (takenR p m) 6) = _
  rw [e6]; exact turn_ref hp hL hm p4 f4
end Go.Kw
set_option linter.unusedVariables false
namespace Go.Kw
theorem hasK_ref (p : Pos) (c : Int) : hasK p c = !decide (find p c 6 < 0) := by
  unfold hasK; rw [find_first p c yd]
  by_cases h : find p c 6 < 0
  · rw [decide_eq_true h, decide_eq_false yo]; rfl
  · rw [decide_eq_false h, decide_eq_true yo]; rfl
theorem well_ref {p : Pos} (hp : POK p) {m : Mv} (h : m ∈ allR p) : wellP p m = wlF p m := by
  obtain ⟨hm, hL⟩ := allR_lm hp h
  have h0 := hp.tu
  have ht := hL.t
  have ha : m ∈ allL p := by rw [all_ref hp]; exact h
  have hq : POK (madeR p m) := POK_madeR hp hm hL.toLMv
  unfold wellP wlF leavesR
  rw [move_ok ha, made_ref hp h, royal_ref hp.vr.1 h0.1]
  unfold wellR wellT lastT
  show (if (!true) = true then false else _) = _
  rw [if_neg (by simp)]
  simp only [hasK_ref, check_ref hq (c := tu p) h0.1 ht, check_ref hq (c := 1 - tu p) yo yo]
  cases refRoyal (vr p) (tu p) <;> cases decide (find (madeR p m) (tu p) 6 < 0) <;> cases decide (find (madeR p m) (1 - tu p) 6 < 0) <;> cases decide (vr p = 3) <;> cases refCheck (madeR p m) (tu p) <;> rfl
theorem idx_any (f : Mv → Bool) : ∀ (xs : List Mv) (k : Nat), decide (0 ≤ idxM f xs k) = xs.any f
  | [], k => by simp [idxM]
  | x :: r, k => by
    unfold idxM
    rw [List.any_cons]
    cases h : f x with
    | true => simp
    | false => simpa using idx_any f r (k + 1)
theorem filter_pos (f : Mv → Bool) (xs : List Mv) : decide (0 < ((xs.filter f).length : Int)) = xs.any f := by
  induction xs with
  | nil => rfl
  | cons x r ih =>
    rw [List.filter_cons, List.any_cons]
    cases h : f x with
    | true => simp
    | false => simpa using ih
theorem any_filter (f g : Mv → Bool) (xs : List Mv) : (xs.filter f).any g = xs.any fun m => f m && g m := by
  induction xs with
  | nil => rfl
  | cons x r ih =>
    rw [List.filter_cons, List.any_cons]
    cases h : f x with
    | true => rw [if_pos rfl, List.any_cons, ih]; rfl
    | false => rw [if_neg (by simp), ih]; rfl
theorem not_there_all {p : Pos} (hp : POK p) (h : (!thereR p) = true) : allR p = [] := by
  have h13 : list13 p = [] := list13_n h
  have hc : (decide (1 < tu p) || !castlesP (vr p)) = true := by
    rw [castles_val hp.vr.1]
    unfold thereR at h
    by_cases a : 1 < tu p
    · rw [decide_eq_true a]; rfl
    · rw [decide_eq_true (show tu p < 2 by omega), Bool.and_true] at h
      have : decide (vr p < 9) = false := by simpa using h
      rw [this]; simp
  have m : ∀ side, (mayC p side).2.2 = false := fun side => by unfold mayC; rw [if_pos hc]
  have h14 : list14 p = [] := by
    show (([] ++ (if (mayC p (1 - ((0 : Nat) : Int))).2.2 = true then _ else [])) ++ (if (mayC p (1 - ((1 : Nat) : Int))).2.2 = true then _ else [])) = []
    rw [m, m]; rfl
  have h15 : list15 p = [] := by
    refine list15_n ?_
    unfold thereR at h
    by_cases a : 1 < tu p
    · rw [decide_eq_true a]; rfl
    · rw [decide_eq_true (show tu p < 2 by omega), Bool.and_true] at h
      have : ¬ vr p < 9 := by simpa using h
      rw [decide_eq_false (show ¬ vr p = 2 by omega)]; simp
  unfold allR; rw [h13, h14, h15]; rfl
theorem would_ref {p : Pos} (hp : POK p) : wouldP p = wouldR p := by
  have e1 : (allL p).filter (wellP p) = (allR p).filter (wlF p) := by
    rw [all_ref hp]
    exact List.filter_congr fun m hm => well_ref hp hm
  have e2 : wdL p (allR p).length = (allR p).filter (wlF p) := by unfold wdL; rw [List.take_length]
  have e3 : wdT p (allR p).length = (allR p).filter fun m => wlF p m && wtF p m := by unfold wdT; rw [List.take_length]
  unfold wouldP wouldR
  rw [e1, e2, e3, hasK_ref, Bool.not_not, royal_ref hp.vr.1 hp.tu.1]
  cases ht : thereR p with
  | false =>
    rw [not_there_all hp (by rw [ht]; rfl)]
    rw [if_pos (show (!false || _) = true by rfl)]
    split
    · rfl
    · split <;> rfl
  | true =>
    rw [show (!true || (refRoyal (vr p) (tu p) && decide (find p (tu p) 6 < 0))) = (refRoyal (vr p) (tu p) && decide (find p (tu p) 6 < 0)) from rfl]
    split
    · rfl
    · rw [idx_any, any_filter, filter_pos]
      by_cases h4 : vr p = 4
      · have e : (fun m => wlF p m && wtF p m) = fun m => wlF p m && takesP p m := by
          funext m
          unfold wtF takesP
          rw [decide_eq_true h4, Bool.true_and, taken_ref hp]
        have e5 : ((allR p).filter (wlF p)).filter (takesP p) = (allR p).filter fun m => wlF p m && takesP p m := by
          rw [List.filter_filter]
          congr 1; funext m; rw [Bool.and_comm]
        rw [e, decide_eq_true h4, e5]
      · rw [decide_eq_false h4]; rfl
theorem win_eq {c : Int} (w : Int) (c0 : 0 ≤ c) (c1 : c ≤ 1) : winsP c w = winR c w := by
  unfold winsP winR
  by_cases h : c = 0
  · subst h; rfl
  · have : c = 1 := by omega
    subst this; rfl
theorem noMen_ref (p : Pos) (c : Int) : noMen p c = !menX p c := by
  unfold noMen menX
  rw [Bool.not_not, Bool.eq_iff_iff, okTo_iff, decide_eq_true_eq]
  constructor
  · intro h i hi
    rw [← own_bit p c hi, h]; simp
  · intro h
    apply BitVec.eq_of_getLsbD_eq
    intro t ht
    rw [own_bit p c ht, h t ht]; simp
theorem hill_alls : (List.range 64).all (fun s => decide (andI (shrI 103481868288 ((BitVec.ofInt 64 ((s : Nat) : Int)).toNat : Int)) 1 = 1) == hillR ((s : Nat) : Int)) = true := by decide +kernel
theorem hill_all (s : Nat) (h : s < 64) : decide (andI (shrI 103481868288 ((BitVec.ofInt 64 ((s : Nat) : Int)).toNat : Int)) 1 = 1) = hillR ((s : Nat) : Int) :=
  eq_of_beq (List.all_eq_true.1 hill_alls s (List.mem_range.2 h))
theorem hill_ref (p : Pos) (c : Int) : hillAt p c = hillR (find p c 6) := by
  have hr := find_rng p c 6
  unfold hillAt
  rw [find_first p c yd]
  by_cases h : 0 ≤ find p c 6
  · have := hill_all (find p c 6).toNat yo
    simp only [Int.toNat_of_nonneg h] at this
    rw [this, decide_eq_true h]; rfl
  · rw [decide_eq_false h]
    have : find p c 6 = -1 := by omega
    rw [this]; rfl
theorem goal_ref (p : Pos) (c : Int) : goalAt p c = decide (55 < find p c 6) := by
  unfold goalAt; rw [find_first p c yd]
  by_cases h : 55 < find p c 6
  · rw [decide_eq_true h, decide_eq_true yo]
  · rw [decide_eq_false h, decide_eq_false yo]
theorem okTo_any (f : Mv → Bool) (xs : List Mv) : (!okTo (fun i => f (xs.getD i (zero moveT))) xs.length) = xs.any f := by
  rw [Bool.eq_iff_iff, Bool.not_eq_true', ← Bool.not_eq_true, okTo_iff, List.any_eq_true]
  constructor
  · intro h
    refine Classical.byContradiction fun hn => h fun i hi => ?_
    cases e : f (xs.getD i (zero moveT)) with
    | false => rfl
    | true =>
      refine (hn ⟨_, ?_, e⟩).elim
      rw [List.getD_eq_getElem?_getD, List.getElem?_eq_getElem hi]; exact List.getElem_mem hi
  · rintro ⟨m, hm, hf⟩ h
    obtain ⟨i, hi, e⟩ := List.mem_iff_getElem.1 hm
    have := h i hi
    rw [List.getD_eq_getElem?_getD, List.getElem?_eq_getElem hi] at this
    have e2 : f m = false := by rw [← e]; exact this
    rw [hf] at e2; cases e2
theorem ifd {α : Type} {c : Prop} [Decidable c] (a b : α) (h : ¬ c) : (if decide c = true then a else b) = b := if_neg (by simpa using h)
theorem ify {α : Type} {c : Prop} [Decidable c] (a b : α) (h : c) : (if decide c = true then a else b) = a := if_pos (by simpa using h)
theorem goalR_ref {p : Pos} (hp : POK p) (ht : tu p ≤ 1) : goalR p = racR p := by
  have h0 := hp.tu.1
  unfold goalR racR
  rw [goal_ref, goal_ref, win_eq _ yd yd, win_eq _ yd yd, idx_any, would_ref hp, find_first p 1 yd]
  have e2 : (!okTo (racF p) (wouldR p).length) = (wouldR p).any (comesP (find p 1 6)) := by
    rw [← okTo_any]
    congr 2
  rw [e2]
  by_cases hz : tu p = 0
  · rw [decide_eq_true hz, decide_eq_false (show ¬ tu p = 1 by omega), Bool.false_and]
    split
    · rfl
    · split
      · rfl
      · split
        · rfl
        · rw [if_pos rfl, if_neg (by simp)]
  · rw [decide_eq_false hz, decide_eq_true (show tu p = 1 by omega), Bool.true_and]
    split
    · rfl
    · split
      · rfl
      · split
        · rfl
        · rw [if_neg (by simp)]
theorem won_ref {p : Pos} (hp : POK p) : wonP p = wonR p := by
  have h0 := hp.tu.1
  unfold wonP wonR
  by_cases h9 : 9 ≤ vr p
  · rw [if_pos (by rw [decide_eq_true h9]; rfl), if_pos]
    unfold thereR; rw [decide_eq_false (show ¬ vr p < 9 by omega)]; rfl
  by_cases h1 : 1 < tu p
  · rw [if_pos (by rw [decide_eq_true h1]; simp), if_pos]
    unfold thereR; rw [decide_eq_false (show ¬ tu p < 2 by omega)]; simp
  have ht : thereR p = true := by unfold thereR; rw [decide_eq_true (show vr p < 9 by omega), decide_eq_true (show tu p < 2 by omega)]; rfl
  rw [if_neg (by rw [decide_eq_false h9, decide_eq_false h1]; simp), if_neg (by rw [ht]; simp)]
  have t1 : tu p ≤ 1 := by omega
  by_cases e3 : vr p = 3
  · rw [wonBy_3 e3, ify _ _ e3]
    unfold blownP
    rw [hasK_ref, Bool.not_not, win_eq _ yo yo]
  rw [ifd _ _ e3]
  by_cases e5 : vr p = 5
  · rw [wonBy_5 e5, ify _ _ e5]
    unfold first2 threeCk
    rw [win_eq _ h0 t1, win_eq _ yo yo]
  rw [ifd _ _ e5]
  by_cases e6 : vr p = 6
  · rw [wonBy_6 e6, ify _ _ e6]
    unfold first2
    rw [hill_ref, hill_ref, win_eq _ h0 t1, win_eq _ yo yo]
  rw [ifd _ _ e6]
  by_cases e7 : vr p = 7
  · rw [wonBy_7 e7, ify _ _ e7]
    unfold hordeP
    rw [noMen_ref, win_eq _ yd yd]
  rw [ifd _ _ e7]
  by_cases e4 : vr p = 4
  · rw [wonBy_4 e4, ify _ _ e4]
    unfold first2
    rw [noMen_ref, noMen_ref, win_eq _ h0 t1, win_eq _ yo yo]
  rw [ifd _ _ e4]
  by_cases e8 : vr p = 8
  · rw [wonBy_8 e8, ify _ _ e8]
    exact goalR_ref hp t1
  rw [ifd _ _ e8]
  unfold wonBy
  rw [if_neg e3, if_neg e4, if_neg e5, if_neg e6, if_neg e7, if_neg e8]
theorem legal_ref {p : Pos} (hp : POK p) : legalL p = list17 p := by
  unfold legalL list17; rw [won_ref hp, would_ref hp]
end Go.Kw
