/- A part of the proof: KwP23, KwP24, KwP25, KwP26, KwR13. -/
import Derived.Test.YtpakilamdannfaaGreatDoorKf
set_option linter.all false
set_option linter.unusedVariables false
set_option linter.unusedSimpArgs false
set_option linter.unusedSectionVars false
set_option maxRecDepth 20000
set_option linter.unusedVariables false
set_option linter.unusedSimpArgs false
namespace Go.Kw
open Go.Proofs
theorem tok59 : TyOK Tryz.prog 59 .fn := ⟨Tryz.isAgg59, Tryz.sizeOf59, Tryz.zeroValue59⟩
theorem tok100 : TyOK Tryz.prog 100 (.st [.fn]) := ⟨Tryz.isAgg100, Tryz.sizeOf100, Tryz.zeroValue100⟩
theorem tok101 : TyOK Tryz.prog 101 (.ar 9 (.st [.fn])) := ⟨Tryz.isAgg101, Tryz.sizeOf101, Tryz.zeroValue101⟩
abbrev fs99 : List Ty := [.fn]
set_option maxRecDepth 20000 in
theorem bl100 : BuildOK Tryz.prog 100 fs99 := ⟨_, _, rfl, rfl, Tryz.underlying100, by kernel_rfl⟩
set_option maxRecDepth 20000 in
theorem bl101 : BuildOKa Tryz.prog 101 9 (.st [.fn]) := ⟨_, _, _, rfl, rfl, Tryz.underlying101, rfl, rfl⟩
theorem fa100_0 : FA Tryz.prog 100 0 0 := fun a w => by simp [Instr.fieldAt, Tryz.runUnderlying100, Instr.sureAddr, fieldPlace, Tryz.sizeOf59]

def blownP (p : Pos) : Res := if (!hasK p (tu p)) = true then winsP (1 - tu p) 6 else zero resT
def noMen (p : Pos) (c : Int) : Bool := decide (ofB p c 0 = 0#64)
def hordeP (p : Pos) : Res := if noMen p 0 = true then winsP 1 8 else zero resT
def abL (a b : Int) (i : Nat) : Int := ([a, b] : List Int).getD i 0
theorem abL_rng {a b : Int} (i : Nat) (a0 : 0 ≤ a) (a1 : a ≤ 1) (b0 : 0 ≤ b) (b1 : b ≤ 1) : 0 ≤ abL a b i ∧ abL a b i ≤ 1 := by
  match i with
  | 0 => exact ⟨a0, a1⟩
  | 1 => exact ⟨b0, b1⟩
  | n + 2 => exact ⟨by show (0 : Int) ≤ 0; decide, by show (0 : Int) ≤ 1; decide⟩
theorem ab_step {f : Int → Bool} {a b : Int} {i : Nat} (h : ∀ j, j < i → f (abL a b j) = false) (hi : f (abL a b i) = false) : ∀ j, j < i + 1 → f (abL a b j) = false := fun j hj => by
  rcases Nat.lt_or_ge j i with h' | h'
  · exact h j h'
  · rw [show j = i by omega]; exact hi
def first2 (a b why : Int) (f : Int → Bool) : Res := if f a = true then winsP a why else if f b = true then winsP b why else zero resT
theorem first_hit {f : Int → Bool} {a b why : Int} {i : Nat} (h : ∀ j, j < i → f (abL a b j) = false) (hi : i < 2) (hf : f (abL a b i) = true) : first2 a b why f = winsP (abL a b i) why := by
  unfold first2
  match i, hi with
  | 0, _ => rw [if_pos (show f a = true from hf)]; rfl
  | 1, _ => rw [if_neg (by rw [show f a = false from h 0 yo]; simp), if_pos (show f b = true from hf)]; rfl
theorem first_end {f : Int → Bool} {a b why : Int} {i : Nat} (h : ∀ j, j < i → f (abL a b j) = false) (hi : 2 ≤ i) : first2 a b why f = zero resT := by
  unfold first2
  rw [if_neg (by rw [show f a = false from h 0 yo]; simp), if_neg (by rw [show f b = false from h 1 yo]; simp)]
def threeCk (p : Pos) (c : Int) : Bool := decide (3 ≤ ckAt p c)
def hillAt (p : Pos) (c : Int) : Bool := decide (0 ≤ firstB (ofB p c 6)) && decide (andI (shrI 103481868288 ((BitVec.ofInt 64 (firstB (ofB p c 6))).toNat : Int)) 1 = 1)
def goalAt (p : Pos) (c : Int) : Bool := decide (56 ≤ firstB (ofB p c 6))
def comesP (kg : Int) (m : Mv) : Bool := decide (mF m = kg) && decide (56 ≤ mT m)
def goalR (p : Pos) : Res := if (goalAt p 0 && goalAt p 1) = true then ((3 : Int), (6 : Int), ()) else if goalAt p 1 = true then winsP 1 6 else if (!goalAt p 0) = true then zero resT
  else if decide (tu p = 0) = true then winsP 0 6 else if decide (0 ≤ idxM (comesP (firstB (ofB p 1 6))) (wouldP p) 0) = true then zero resT else winsP 0 6
theorem wouldP_mem {p : Pos} {m : Mv} (h : m ∈ wouldP p) : m ∈ allL p := by
  unfold wouldP at h
  split at h
  · cases h
  · split at h
    · exact (List.mem_filter.1 (List.mem_filter.1 h).1).1
    · exact (List.mem_filter.1 h).1
theorem wouldP_len (p : Pos) : (wouldP p).length ≤ 1000000 := by
  have hal := allL_len p
  unfold wouldP; split
  · exact Nat.zero_le _
  · split
    · exact Nat.le_trans (List.length_filter_le _ _) (Nat.le_trans (List.length_filter_le _ _) hal)
    · exact Nat.le_trans (List.length_filter_le _ _) hal
def winT : List (El (.st [.fn])) := [((none : FnV), ()), ((none : FnV), ()), ((none : FnV), ()), ((some (141, [], []) : FnV), ()), ((some (145, [], []) : FnV), ()), ((some (142, [], []) : FnV), ()), ((some (143, [], []) : FnV), ()), ((some (144, [], []) : FnV), ()), ((some (146, [], []) : FnV), ())]
theorem winT_wf : wf (.ar 9 (.st [.fn])) winT := ⟨rfl, fun _ _ => ⟨trivial, trivial⟩⟩
def winAt (v : Int) : El (.st [.fn]) := winT.getD v.toNat (zero (.st [.fn]))
theorem winAt_wf (v : Int) : wf (.st [.fn]) (winAt v) := ⟨trivial, trivial⟩
def wonBy (p : Pos) : Res := if vr p = 3 then blownP p else if vr p = 4 then first2 (tu p) (1 - tu p) 8 (noMen p) else if vr p = 5 then first2 (1 - tu p) (tu p) 7 (threeCk p) else if vr p = 6 then first2 (1 - tu p) (tu p) 6 (hillAt p)
  else if vr p = 7 then hordeP p else if vr p = 8 then goalR p else zero resT
def wonP (p : Pos) : Res := if (decide (9 ≤ vr p) || decide (1 < tu p)) = true then zero resT else wonBy p
theorem won_a {p : Pos} (h : (decide (9 ≤ vr p) || decide (1 < tu p)) = true) : wonP p = zero resT := by unfold wonP; rw [if_pos h]
theorem won_b {p : Pos} (h : (decide (9 ≤ vr p) || decide (1 < tu p)) = false) : wonP p = wonBy p := by unfold wonP; rw [if_neg xawy]
theorem won_c {p : Pos} (h0 : 0 ≤ vr p) (h9 : vr p < 9) (h : (decide (9 ≤ vr p) || decide (1 < tu p)) = false) (h2 : (winAt (vr p)).1.isSome = false) : wonP p = zero resT := by
  rw [won_b h]
  unfold wonBy
  rcases fin9 h0 h9 with e | e | e | e | e | e | e | e | e <;> rw [e] at h2 ⊢ <;> first | rfl | cases h2
theorem wonBy_3 {p : Pos} (e : vr p = 3) : wonBy p = blownP p := by unfold wonBy; rw [if_pos e]
theorem wonBy_4 {p : Pos} (e : vr p = 4) : wonBy p = first2 (tu p) (1 - tu p) 8 (noMen p) := by unfold wonBy; rw [if_neg yo, if_pos e]
theorem wonBy_5 {p : Pos} (e : vr p = 5) : wonBy p = first2 (1 - tu p) (tu p) 7 (threeCk p) := by unfold wonBy; rw [if_neg yo, if_neg yo, if_pos e]
theorem wonBy_6 {p : Pos} (e : vr p = 6) : wonBy p = first2 (1 - tu p) (tu p) 6 (hillAt p) := by unfold wonBy; rw [if_neg yo, if_neg yo, if_neg yo, if_pos e]
theorem wonBy_7 {p : Pos} (e : vr p = 7) : wonBy p = hordeP p := by unfold wonBy; rw [if_neg yo, if_neg yo, if_neg yo, if_neg yo, if_pos e]
theorem wonBy_8 {p : Pos} (e : vr p = 8) : wonBy p = goalR p := by unfold wonBy; rw [if_neg yo, if_neg yo, if_neg yo, if_neg yo, if_neg yo, if_pos e]
def legalL (p : Pos) : List Mv := if (!decide ((wonP p).1 = 0)) = true then [] else wouldP p

theorem c_legal_blown (p : Pos) (hp : POK p) (M : List Fact) (hT : TAB ∈ M) (ht : tu p ≤ 1) : Pure Tryz.prog 141 [enc posT p] M (enc resT (blownP p)) := by
 have hb := hp.board
 have hpw := hp.wf
 have hvr := hp.vr
 have htu := hp.tu
 have hpg := hp.pg
 have hvr0 := hp.vr
 have htu0 := hp.tu
 simp only [vr] at hvr0
 simp only [tu] at htu0
 have ht2 := ht
 simp only [tu] at ht2
 refine pure_of_W (n := 13) Tryz.func141 rfl rfl yn ?_
 refine W_seq (W_regl fun w0 => ?_)
 refine LO_l rfl (by decide : 1 < 13) (ol_box (t := posT) rfl rfl rfl yf (fun b1 => ?_))
 refine LO_l rfl (by decide : 2 < 13) (ol_alloc (t := resT) rfl tok58 yf (fun b2 => ?_))
 refine LO_nil ?_
 refine W_seq ?_
 refine W_seq (W_reg ?_)
 refine yR (ov_load rfl rfl ye trivial rfl rfl tok31) ?_
 refine yR (ov_fieldAddr rfl rfl fa31_4 rfl) ?_
 refine yR (ov_load rfl rfl ye ⟨trivial, yn⟩ rfl rfl tok5) ?_
 refine yP (yV rfl rfl rfl Tryz.call74 (by apply c_legal_has <;> exact yz)) ?_
 refine yR (ov_not rfl rfl) ?_
 refine RO_nil ?_
 refine W_cond rfl (fun hc1 => ?_) (fun hc1 => ?_)
 ·
  refine W_seq (W_regl fun w0 => ?_)
  refine yL (ov_fieldAddr rfl rfl fa31_4 rfl) ?_
  refine yL (ov_load rfl rfl ye ⟨trivial, yn⟩ rfl rfl tok5) ?_
  refine yL (ov_sub rfl rfl rfl ya) ?_
  refine yQ (yV rfl rfl rfl Tryz.call184 (by apply c_legal_wins <;> exact yz)) ?_
  refine LO_l rfl trivial (ol_sw0 rfl rfl rfl rfl yf tok58 ?_)
  refine LO_nil ?_
  refine W_ret ?_
  refine ⟨trivial, yb, (ResV_cell rfl rfl ye rfl tok58 ?_)⟩
  first | exact val_enc (show blownP p = _ from if_pos hc1).symm | exact val_enc (show blownP p = _ from if_neg (Bool.eq_false_iff.1 hc1)).symm
 ·
  refine W_skip ?_
  refine W_seq (W_regl fun w0 => ?_)
  refine yL (ov_build (fs := fs57) (ds := []) rfl rfl bl58 trivial rfl) ?_
  refine LO_l rfl trivial (ol_sw0 rfl rfl rfl rfl yf tok58 ?_)
  refine LO_nil ?_
  refine W_ret ?_
  refine ⟨trivial, yb, (ResV_cell rfl rfl ye rfl tok58 ?_)⟩
  first | exact val_enc (show blownP p = _ from if_pos hc1).symm | exact val_enc (show blownP p = _ from if_neg (Bool.eq_false_iff.1 hc1)).symm

theorem c_legal_horde (p : Pos) (hp : POK p) (M : List Fact) : Pure Tryz.prog 144 [enc posT p] M (enc resT (hordeP p)) := by
 have hb := hp.board
 have hpw := hp.wf
 have hvr := hp.vr
 have htu := hp.tu
 have hpg := hp.pg
 have hvr0 := hp.vr
 have htu0 := hp.tu
 simp only [vr] at hvr0
 simp only [tu] at htu0
 refine pure_of_W (n := 8) Tryz.func144 rfl rfl yn ?_
 refine W_seq (W_regl fun w0 => ?_)
 refine LO_l rfl (by decide : 1 < 8) (ol_box (t := posT) rfl rfl rfl yf (fun b1 => ?_))
 refine LO_l rfl (by decide : 2 < 8) (ol_alloc (t := resT) rfl tok58 yf (fun b2 => ?_))
 refine LO_nil ?_
 refine W_seq ?_
 refine W_seq (W_reg ?_)
 refine yR (ov_load rfl rfl ye trivial rfl rfl tok31) ?_
 refine yP (yV rfl rfl rfl Tryz.call117 xauy) ?_
 refine yR (ov_eql64 (b := 0#64) rfl rfl rfl) ?_
 refine RO_nil ?_
 refine W_cond rfl (fun hc1 => ?_) (fun hc1 => ?_)
 ·
  refine W_seq (W_regl fun w0 => ?_)
  refine yQ (yV rfl rfl rfl Tryz.call184 (by apply c_legal_wins <;> exact yz)) ?_
  refine LO_l rfl trivial (ol_sw0 rfl rfl rfl rfl yf tok58 ?_)
  refine LO_nil ?_
  refine W_ret ?_
  refine ⟨trivial, yb, (ResV_cell rfl rfl ye rfl tok58 ?_)⟩
  first | exact val_enc (show hordeP p = _ from if_pos hc1).symm | exact val_enc (show hordeP p = _ from if_neg (Bool.eq_false_iff.1 hc1)).symm
 ·
  refine W_skip ?_
  refine W_seq (W_regl fun w0 => ?_)
  refine yL (ov_build (fs := fs57) (ds := []) rfl rfl bl58 trivial rfl) ?_
  refine LO_l rfl trivial (ol_sw0 rfl rfl rfl rfl yf tok58 ?_)
  refine LO_nil ?_
  refine W_ret ?_
  refine ⟨trivial, yb, (ResV_cell rfl rfl ye rfl tok58 ?_)⟩
  first | exact val_enc (show hordeP p = _ from if_pos hc1).symm | exact val_enc (show hordeP p = _ from if_neg (Bool.eq_false_iff.1 hc1)).symm

theorem c_legal_first (p : Pos) (hp : POK p) (why : Int) (cf : FuncId) (cv : List Value) (f : Int → Bool) (M : List Fact) (ht : tu p ≤ 1) (hcf : ∀ av w, (callFunc cf av).run Tryz.prog w = .ok (.enter cf av) w) (hh : ∀ c, 0 ≤ c → c ≤ 1 → Pure Tryz.prog cf (.int .u8 c :: cv) M (.bool (f c))) : Pure Tryz.prog 185 [enc posT p, .int .u8 why, (.func (.func cf) #[] cv.toArray)] M (enc resT (first2 (1 - tu p) (tu p) why f)) := by
 have hb := hp.board
 have hpw := hp.wf
 have hvr := hp.vr
 have htu := hp.tu
 have hpg := hp.pg
 have hvr0 := hp.vr
 have htu0 := hp.tu
 simp only [vr] at hvr0
 simp only [tu] at htu0
 have ht2 := ht
 simp only [tu] at ht2
 refine pure_of_W (n := 28) Tryz.func185 rfl rfl yn ?_
 refine W_seq (W_regl fun w0 => ?_)
 refine LO_l rfl (by decide : 3 < 28) (ol_box (t := posT) rfl rfl rfl yf (fun b1 => ?_))
 refine LO_l rfl (by decide : 6 < 28) (ol_alloc (t := resT) rfl tok58 yf (fun b2 => ?_))
 refine LO_nil ?_
 refine W_seq ?_
 refine W_seq (W_regl fun w0 => ?_)
 refine yL (ov_fieldAddr rfl rfl fa31_4 rfl) ?_
 refine yL (ov_load rfl rfl ye ⟨trivial, yn⟩ rfl rfl tok5) ?_
 refine yL (ov_sub rfl rfl rfl ya) ?_
 refine yL (ov_fieldAddr rfl rfl fa31_4 rfl) ?_
 refine yL (ov_load rfl rfl ye ⟨trivial, yn⟩ rfl rfl tok5) ?_
 refine LO_l rfl (by decide : 14 < 28) (ol_buildSlice (t := u8) (xs := [_, _]) rfl rfl rfl Tryz.underlying43 tok5 xafy yd yd yd (fun v1 => ?_))
 refine yL (ov_len rfl rfl xaby Tryz.underlying43) ?_
 refine zM ?_
 refine LO_nil ?_
 refine W_block ?_
 refine W_loop (σ := Nat) (fun s5 => s5 ≤ 2 ∧ ∀ j, j < s5 → f (abL (1 - tu p) (tu p) j) = false) (fun s5 => [(1, .int .u8 why), (2, (.func (.func cf) #[] cv.toArray)), (6, ptrv b2 resT []), (14, v1), (15, .int .i64 (2 : Nat)), (16, .int .i64 (s5 : Int))]) (fun s5 => .row v1 5 u8 _ :: .box b2 58 resT (zero resT) :: .box b1 31 posT _ :: M) (fun s5 => 2 - s5) (0) ⟨by omega, fun j hj => absurd hj yo⟩ ⟨rfl, rfl, rfl, rfl, rfl, rfl, trivial⟩ yb ?_
 rintro i ⟨hI, hH⟩
 refine W_seq (W_reg ?_)
 refine yR (ov_lss rfl rfl rfl) ?_
 refine RO_nil ?_
 refine W_seq ?_
 refine W_cond rfl (fun hc1 => ?_) (fun hc1 => ?_)
 ·
  try simp only [yS] at hc1
  have hxr : @LE.le Int _ 0 (([1 - p.2.2.2.2.1, p.2.2.2.2.1] : List (El u8)).getD ((i : Nat) : Int).toNat (zero u8)) ∧ @LE.le Int _ (([1 - p.2.2.2.2.1, p.2.2.2.2.1] : List (El u8)).getD ((i : Nat) : Int).toNat (zero u8)) 1 := abL_rng (a := 1 - tu p) (b := tu p) i yo yo yo yo
  have hix : ((i : Nat) : Int).toNat < ([1 - p.2.2.2.2.1, p.2.2.2.2.1] : List (El u8)).length := by show ((i : Nat) : Int).toNat < 2; omega
  refine W_skip ?_
  refine W_seq ?_
  refine W_block ?_
  refine W_seq (W_reg ?_)
  refine yR (ov_indexAddr_sl (t := u8) rfl rfl xaby rfl Tryz.underlying43 Tryz.sizeOf5 ya ya) ?_
  refine yR (ov_load_e (t := u8) (p := []) rfl rfl xaby ya trivial rfl rfl tok5) ?_
  refine yA_ ?_
  refine RO_nil ?_
  refine W_seq (W_reg ?_)
  refine yM ?_
  refine yM ?_
  refine yP (ov_call  rfl rfl rfl hcf (Pure.frame (A := [_, _, _]) (hh _ hxr.1 hxr.2))) ?_
  refine RO_nil ?_
  refine W_cond rfl (fun hc2 => ?_) (fun hc2 => ?_)
  ·
   refine W_seq (W_regl fun w0 => ?_)
   refine zM ?_
   refine zM ?_
   refine yQ (yV rfl rfl rfl Tryz.call184 (c_legal_wins _ why _ hxr.1 hxr.2)) ?_
   refine LO_l rfl trivial (ol_sw1 rfl rfl rfl rfl yf tok58 ?_)
   refine LO_nil ?_
   refine W_ret ?_
   refine ⟨trivial, yb, (ResV_cell rfl rfl ye rfl tok58 ?_)⟩
   first | exact val_enc (first_hit hH yo hc2).symm | exact val_enc (first_end hH yo).symm
  ·
   refine W_skip ?_
   refine W_reg ?_
   refine yR (ov_add rfl rfl rfl ya) ?_
   refine yM ?_
   refine RO_nil ?_
   exact ⟨i + 1, yo, ⟨by omega, ab_step hH hc2⟩, ⟨rfl, rfl, rfl, rfl, rfl, rfl, trivial⟩, yb⟩
 ·
  try simp only [yS] at hc1
  refine W_exit ?_
  refine W_seq (W_regl fun w0 => ?_)
  refine yL (ov_build (fs := fs57) (ds := []) rfl rfl bl58 trivial rfl) ?_
  refine LO_l rfl trivial (ol_sw1 rfl rfl rfl rfl yf tok58 ?_)
  refine LO_nil ?_
  refine W_ret ?_
  refine ⟨trivial, yb, (ResV_cell rfl rfl ye rfl tok58 ?_)⟩
  first | exact val_enc (first_hit hH yo hc2).symm | exact val_enc (first_end hH yo).symm

theorem c_legal_bare (p : Pos) (hp : POK p) (M : List Fact) (ht : tu p ≤ 1) : Pure Tryz.prog 145 [enc posT p] M (enc resT (first2 (tu p) (1 - tu p) 8 (noMen p))) := by
 have hb := hp.board
 have hpw := hp.wf
 have hvr := hp.vr
 have htu := hp.tu
 have hpg := hp.pg
 have hvr0 := hp.vr
 have htu0 := hp.tu
 simp only [vr] at hvr0
 simp only [tu] at htu0
 have ht2 := ht
 simp only [tu] at ht2
 refine pure_of_W (n := 24) Tryz.func145 rfl rfl yn ?_
 refine W_seq (W_regl fun w0 => ?_)
 refine LO_l rfl (by decide : 1 < 24) (ol_box (t := posT) rfl rfl rfl yf (fun b1 => ?_))
 refine LO_l rfl (by decide : 2 < 24) (ol_alloc (t := resT) rfl tok58 yf (fun b2 => ?_))
 refine LO_nil ?_
 refine W_seq ?_
 refine W_seq (W_regl fun w0 => ?_)
 refine yL (ov_fieldAddr rfl rfl fa31_4 rfl) ?_
 refine yL (ov_load rfl rfl ye ⟨trivial, yn⟩ rfl rfl tok5) ?_
 refine yL (ov_fieldAddr rfl rfl fa31_4 rfl) ?_
 refine yL (ov_load rfl rfl ye ⟨trivial, yn⟩ rfl rfl tok5) ?_
 refine yL (ov_sub rfl rfl rfl ya) ?_
 refine LO_l rfl (by decide : 10 < 24) (ol_buildSlice (t := u8) (xs := [_, _]) rfl rfl rfl Tryz.underlying43 tok5 xafy yd yd yd (fun v1 => ?_))
 refine yL (ov_len rfl rfl xaby Tryz.underlying43) ?_
 refine zM ?_
 refine LO_nil ?_
 refine W_block ?_
 refine W_loop (σ := Nat) (fun s5 => s5 ≤ 2 ∧ ∀ j, j < s5 → (noMen p) (abL (tu p) (1 - tu p) j) = false) (fun s5 => [(1, ptrv b1 posT []), (2, ptrv b2 resT []), (10, v1), (11, .int .i64 (2 : Nat)), (12, .int .i64 (s5 : Int))]) (fun s5 => .row v1 5 u8 _ :: .box b2 58 resT (zero resT) :: .box b1 31 posT _ :: M) (fun s5 => 2 - s5) (0) ⟨by omega, fun j hj => absurd hj yo⟩ ⟨rfl, rfl, rfl, rfl, rfl, trivial⟩ yb ?_
 rintro i ⟨hI, hH⟩
 refine W_seq (W_reg ?_)
 refine yR (ov_lss rfl rfl rfl) ?_
 refine RO_nil ?_
 refine W_seq ?_
 refine W_cond rfl (fun hc1 => ?_) (fun hc1 => ?_)
 ·
  try simp only [yS] at hc1
  have hxr : @LE.le Int _ 0 (([p.2.2.2.2.1, 1 - p.2.2.2.2.1] : List (El u8)).getD ((i : Nat) : Int).toNat (zero u8)) ∧ @LE.le Int _ (([p.2.2.2.2.1, 1 - p.2.2.2.2.1] : List (El u8)).getD ((i : Nat) : Int).toNat (zero u8)) 1 := abL_rng (a := tu p) (b := 1 - tu p) i yo yo yo yo
  have hix : ((i : Nat) : Int).toNat < ([p.2.2.2.2.1, 1 - p.2.2.2.2.1] : List (El u8)).length := by show ((i : Nat) : Int).toNat < 2; omega
  refine W_skip ?_
  refine W_seq ?_
  refine W_block ?_
  refine W_seq (W_reg ?_)
  refine yR (ov_indexAddr_sl (t := u8) rfl rfl xaby rfl Tryz.underlying43 Tryz.sizeOf5 ya ya) ?_
  refine yR (ov_load_e (t := u8) (p := []) rfl rfl xaby ya trivial rfl rfl tok5) ?_
  refine yA_ ?_
  refine RO_nil ?_
  refine W_seq (W_reg ?_)
  refine yR (ov_load rfl rfl ye trivial rfl rfl tok31) ?_
  refine yM ?_
  refine yP (yV rfl rfl rfl Tryz.call117 xauy) ?_
  refine yR (ov_eql64 (b := 0#64) rfl rfl rfl) ?_
  refine RO_nil ?_
  refine W_cond rfl (fun hc2 => ?_) (fun hc2 => ?_)
  ·
   refine W_seq (W_regl fun w0 => ?_)
   refine zM ?_
   refine yQ (yV rfl rfl rfl Tryz.call184 (c_legal_wins _ 8 _ hxr.1 hxr.2)) ?_
   refine LO_l rfl trivial (ol_sw1 rfl rfl rfl rfl yf tok58 ?_)
   refine LO_nil ?_
   refine W_ret ?_
   refine ⟨trivial, yb, (ResV_cell rfl rfl ye rfl tok58 ?_)⟩
   first | exact val_enc (first_hit hH yo hc2).symm | exact val_enc (first_end hH yo).symm
  ·
   refine W_skip ?_
   refine W_reg ?_
   refine yR (ov_add rfl rfl rfl ya) ?_
   refine yM ?_
   refine RO_nil ?_
   exact ⟨i + 1, yo, ⟨by omega, ab_step hH hc2⟩, ⟨rfl, rfl, rfl, rfl, rfl, trivial⟩, yb⟩
 ·
  try simp only [yS] at hc1
  refine W_exit ?_
  refine W_seq (W_regl fun w0 => ?_)
  refine yL (ov_build (fs := fs57) (ds := []) rfl rfl bl58 trivial rfl) ?_
  refine LO_l rfl trivial (ol_sw1 rfl rfl rfl rfl yf tok58 ?_)
  refine LO_nil ?_
  refine W_ret ?_
  refine ⟨trivial, yb, (ResV_cell rfl rfl ye rfl tok58 ?_)⟩
  first | exact val_enc (first_hit hH yo hc2).symm | exact val_enc (first_end hH yo).symm

theorem c_legal_checks_1 (p : Pos) (hp : POK p) (c : Int) (bc t1 : Nat) (M : List Fact) (m1 : Fact.box bc t1 posT p ∈ M) (h0 : 0 ≤ c) (h1 : c ≤ 1) : Pure Tryz.prog 186 [.int .u8 c, ptrv bc posT []] M (.bool (threeCk p c)) := by
 have hb := hp.board
 have hpw := hp.wf
 have hvr := hp.vr
 have htu := hp.tu
 have hpg := hp.pg
 have hvr0 := hp.vr
 have htu0 := hp.tu
 simp only [vr] at hvr0
 simp only [tu] at htu0
 refine pure_of_W (n := 9) Tryz.func186 rfl rfl yn ?_
 refine W_seq (W_reg ?_)
 refine yA_ ?_
 refine RO_nil ?_
 refine W_seq (W_reg ?_)
 refine yM ?_
 refine yR (ov_fieldAddr rfl rfl fa31_7 rfl) ?_
 refine yR (ov_indexAddr rfl rfl rfl Tryz.underlying29 rfl Tryz.sizeOf5 ya ya) ?_
 refine yR (ov_load rfl rfl ye ⟨⟨trivial, yn⟩, (tn ya ya)⟩ rfl rfl tok5) ?_
 refine yR (ov_geq rfl rfl rfl) ?_
 refine yA_ ?_
 refine RO_nil ?_
 refine W_ret ?_
 refine ⟨trivial, yb, (ResV_tmp1 rfl rfl ?_)⟩
 rfl

theorem c_legal_onHill_1 (p : Pos) (hp : POK p) (c : Int) (bc t1 : Nat) (M : List Fact) (hT : TAB ∈ M) (m1 : Fact.box bc t1 posT p ∈ M) (h0 : 0 ≤ c) (h1 : c ≤ 1) : Pure Tryz.prog 187 [.int .u8 c, ptrv bc posT []] M (.bool (hillAt p c)) := by
 have hb := hp.board
 have hpw := hp.wf
 have hvr := hp.vr
 have htu := hp.tu
 have hpg := hp.pg
 have hvr0 := hp.vr
 have htu0 := hp.tu
 simp only [vr] at hvr0
 simp only [tu] at htu0
 refine pure_of_W (n := 17) Tryz.func187 rfl rfl yn ?_
 refine W_seq (W_reg ?_)
 refine yA_ ?_
 refine RO_nil ?_
 refine W_seq (W_reg ?_)
 refine yR (ov_load rfl rfl ye trivial rfl rfl tok31) ?_
 refine yM ?_
 refine yP (yV rfl rfl rfl Tryz.call115 (by apply c_board_Find <;> exact yz)) ?_
 refine yA_ ?_
 refine RO_nil ?_
 refine W_seq (W_reg ?_)
 refine yM ?_
 refine yR (ov_geq rfl rfl rfl) ?_
 refine yM ?_
 refine yG (fun hg => OpX.v (ov_move rfl rfl)) ?_
 refine yG (fun hg => OpX.v (ov_conv64 rfl (look_gv rfl (bq hg)) Tryz.underlying3 Tryz.underlying111)) ?_
 refine yG (fun hg => OpX.v (ov_shrI rfl rfl (look_gv rfl (bq hg)) ya)) ?_
 refine yG (fun hg => OpX.v (ov_andI rfl (look_gv rfl (bq hg)) rfl)) ?_
 refine yG (fun hg => OpX.v (ov_eql rfl (look_gv rfl (bq hg)) rfl)) ?_
 refine yR (ov_and rfl rfl rfl rfl (fun h => bq h)) ?_
 refine yA_ ?_
 refine RO_nil ?_
 refine W_ret ?_
 refine ⟨trivial, yb, (ResV_tmp1 rfl rfl ?_)⟩
 rfl

theorem c_legal_goal_1 (p : Pos) (hp : POK p) (c : Int) (bc t1 : Nat) (M : List Fact) (hT : TAB ∈ M) (m1 : Fact.box bc t1 posT p ∈ M) : Pure Tryz.prog 188 [.int .u8 c, ptrv bc posT []] M (.bool (goalAt p c)) := by
 have hb := hp.board
 have hpw := hp.wf
 have hvr := hp.vr
 have htu := hp.tu
 have hpg := hp.pg
 have hvr0 := hp.vr
 have htu0 := hp.tu
 simp only [vr] at hvr0
 simp only [tu] at htu0
 refine pure_of_W (n := 8) Tryz.func188 rfl rfl yn ?_
 refine W_seq (W_reg ?_)
 refine yA_ ?_
 refine RO_nil ?_
 refine W_seq (W_reg ?_)
 refine yR (ov_load rfl rfl ye trivial rfl rfl tok31) ?_
 refine yM ?_
 refine yP (yV rfl rfl rfl Tryz.call115 (by apply c_board_Find <;> exact yz)) ?_
 refine yR (ov_geq rfl rfl rfl) ?_
 refine yA_ ?_
 refine RO_nil ?_
 refine W_ret ?_
 refine ⟨trivial, yb, (ResV_tmp1 rfl rfl ?_)⟩
 rfl

theorem c_legal_goal_2 (m : Mv) (hm : MOK m) (kg : Int) (bc t1 : Nat) (M : List Fact) (m1 : Fact.box bc t1 i64 kg ∈ M) : Pure Tryz.prog 189 [enc moveT m, ptrv bc i64 []] M (.bool (comesP kg m)) := by
 have hmF := hm.f
 have hmT := hm.t
 have hmP := hm.p
 have hmD := hm.d
 have hmF0 := hm.f
 have hmT0 := hm.t
 have hmP0 := hm.p
 have hmD0 := hm.d
 simp only [mF] at hmF0
 simp only [mT] at hmT0
 simp only [mP] at hmP0
 simp only [mD] at hmD0
 refine pure_of_W (n := 14) Tryz.func189 rfl rfl yn ?_
 refine W_seq (W_regl fun w0 => ?_)
 refine LO_l rfl (by decide : 2 < 14) (ol_box (t := moveT) rfl rfl rfl yf (fun b1 => ?_))
 refine zA ?_
 refine LO_nil ?_
 refine W_seq (W_reg ?_)
 refine yR (ov_fieldAddr rfl rfl fa55_0 rfl) ?_
 refine yR (ov_load rfl rfl ye ⟨trivial, yn⟩ rfl rfl tok26) ?_
 refine yR (ov_convn rfl rfl Tryz.underlying26 Tryz.underlying3 ya) ?_
 refine yR (ov_load rfl rfl ye trivial rfl rfl tok3) ?_
 refine yR (ov_eql rfl rfl rfl) ?_
 refine yM ?_
 refine yG (fun hg => OpX.v (ov_fieldAddr rfl rfl fa55_1 rfl)) ?_
 refine yG (fun hg => OpX.v (ov_load rfl (look_gv rfl (bq hg)) ye ⟨trivial, yn⟩ rfl rfl tok26)) ?_
 refine yG (fun hg => OpX.v (ov_geq rfl (look_gv rfl (bq hg)) rfl)) ?_
 refine yR (ov_and rfl rfl rfl rfl (fun h => bq h)) ?_
 refine yA_ ?_
 refine RO_nil ?_
 refine W_ret ?_
 refine ⟨trivial, yb, (ResV_tmp1 rfl rfl ?_)⟩
 rfl

theorem c_legal_checks (p : Pos) (hp : POK p) (M : List Fact) (ht : tu p ≤ 1) : Pure Tryz.prog 142 [enc posT p] M (enc resT (first2 (1 - tu p) (tu p) 7 (threeCk p))) := by
 have hb := hp.board
 have hpw := hp.wf
 have hvr := hp.vr
 have htu := hp.tu
 have hpg := hp.pg
 have hvr0 := hp.vr
 have htu0 := hp.tu
 simp only [vr] at hvr0
 simp only [tu] at htu0
 refine pure_of_W (n := 6) Tryz.func142 rfl rfl yn ?_
 refine W_seq (W_regl fun w0 => ?_)
 refine LO_l rfl (by decide : 1 < 6) (ol_box (t := posT) rfl rfl rfl yf (fun b1 => ?_))
 refine LO_l rfl (by decide : 2 < 6) (ol_alloc (t := resT) rfl tok58 yf (fun b2 => ?_))
 refine LO_nil ?_
 refine W_seq (W_regl fun w0 => ?_)
 refine yL (ov_load rfl rfl ye trivial rfl rfl tok31) ?_
 refine yL (ov_makeFunc rfl rfl rfl) ?_
 refine yQ (yV rfl rfl rfl Tryz.call185 (c_legal_first p hp 7 186 [ptrv b1 posT []] (threeCk p) _ ht Tryz.call186 (fun c h0 h1 => c_legal_checks_1 p hp c b1 _ _ ye h0 h1))) ?_
 refine LO_l rfl trivial (ol_sw0 rfl rfl rfl rfl yf tok58 ?_)
 refine LO_nil ?_
 refine W_ret ?_
 refine ⟨trivial, yb, (ResV_cell rfl rfl ye rfl tok58 ?_)⟩
 rfl

theorem c_legal_onHill (p : Pos) (hp : POK p) (M : List Fact) (hT : TAB ∈ M) (ht : tu p ≤ 1) : Pure Tryz.prog 143 [enc posT p] M (enc resT (first2 (1 - tu p) (tu p) 6 (hillAt p))) := by
 have hb := hp.board
 have hpw := hp.wf
 have hvr := hp.vr
 have htu := hp.tu
 have hpg := hp.pg
 have hvr0 := hp.vr
 have htu0 := hp.tu
 simp only [vr] at hvr0
 simp only [tu] at htu0
 refine pure_of_W (n := 6) Tryz.func143 rfl rfl yn ?_
 refine W_seq (W_regl fun w0 => ?_)
 refine LO_l rfl (by decide : 1 < 6) (ol_box (t := posT) rfl rfl rfl yf (fun b1 => ?_))
 refine LO_l rfl (by decide : 2 < 6) (ol_alloc (t := resT) rfl tok58 yf (fun b2 => ?_))
 refine LO_nil ?_
 refine W_seq (W_regl fun w0 => ?_)
 refine yL (ov_load rfl rfl ye trivial rfl rfl tok31) ?_
 refine yL (ov_makeFunc rfl rfl rfl) ?_
 refine yQ (yV rfl rfl rfl Tryz.call185 (c_legal_first p hp 6 187 [ptrv b1 posT []] (hillAt p) _ ht Tryz.call187 (fun c h0 h1 => c_legal_onHill_1 p hp c b1 _ _ ye ye h0 h1))) ?_
 refine LO_l rfl trivial (ol_sw0 rfl rfl rfl rfl yf tok58 ?_)
 refine LO_nil ?_
 refine W_ret ?_
 refine ⟨trivial, yb, (ResV_cell rfl rfl ye rfl tok58 ?_)⟩
 rfl

theorem c_legal_goal (p : Pos) (hp : POK p) (M : List Fact) (hT : TAB ∈ M) : Pure Tryz.prog 146 [enc posT p] M (enc resT (goalR p)) := by
 have hb := hp.board
 have hpw := hp.wf
 have hvr := hp.vr
 have htu := hp.tu
 have hpg := hp.pg
 have hvr0 := hp.vr
 have htu0 := hp.tu
 simp only [vr] at hvr0
 simp only [tu] at htu0
 have hwl : (wouldP p).length ≤ 1000000 := wouldP_len p
 refine pure_of_W (n := 40) Tryz.func146 rfl rfl yn ?_
 refine W_seq (W_regl fun w0 => ?_)
 refine LO_l rfl (by decide : 1 < 40) (ol_box (t := posT) rfl rfl rfl yf (fun b1 => ?_))
 refine LO_l rfl (by decide : 2 < 40) (ol_alloc (t := resT) rfl tok58 yf (fun b2 => ?_))
 refine LO_nil ?_
 refine W_seq (W_reg ?_)
 refine yR (ov_makeFunc rfl rfl rfl) ?_
 refine yA_ ?_
 refine RO_nil ?_
 refine W_seq (W_reg ?_)
 refine yM ?_
 refine yP (ov_call  rfl rfl rfl Tryz.call188 (c_legal_goal_1 p hp 0 b1 _ _ ye ye)) ?_
 refine yM ?_
 refine yP (ov_call  rfl rfl rfl Tryz.call188 (c_legal_goal_1 p hp 1 b1 _ _ ye ye)) ?_
 refine yA_ ?_
 refine yA_ ?_
 refine RO_nil ?_
 refine W_seq ?_
 refine W_block ?_
 refine W_seq (W_reg ?_)
 refine yM ?_
 refine yM ?_
 refine yG (fun hg => OpX.v (ov_move rfl rfl)) ?_
 refine yR (ov_and rfl rfl rfl rfl (fun h => bq h)) ?_
 refine yA_ ?_
 refine RO_nil ?_
 refine W_cond rfl (fun hc1 => ?_) (fun hc1 => ?_)
 ·
  refine W_seq (W_regl fun w0 => ?_)
  refine yL (ov_build (fs := fs57) (ds := [⟨0, _⟩, ⟨1, _⟩]) rfl rfl bl58 ⟨yn, yf, ⟨yn, yf, trivial⟩⟩ rfl) ?_
  refine LO_l rfl trivial (ol_sw0 rfl rfl rfl rfl yf tok58 ?_)
  refine LO_nil ?_
  refine W_ret ?_
  refine ⟨trivial, yb, (ResV_cell rfl rfl ye rfl tok58 ?_)⟩
  exact xbjy
 ·
  refine W_seq (W_reg ?_)
  refine yM ?_
  refine yA_ ?_
  refine RO_nil ?_
  refine W_cond rfl (fun hc2 => ?_) (fun hc2 => ?_)
  ·
   refine W_seq (W_regl fun w0 => ?_)
   refine yQ (yV rfl rfl rfl Tryz.call184 (by apply c_legal_wins <;> exact yz)) ?_
   refine LO_l rfl trivial (ol_sw0 rfl rfl rfl rfl yf tok58 ?_)
   refine LO_nil ?_
   refine W_ret ?_
   refine ⟨trivial, yb, (ResV_cell rfl rfl ye rfl tok58 ?_)⟩
   exact xbjy
  ·
   refine W_seq (W_reg ?_)
   refine yM ?_
   refine yR (ov_not rfl rfl) ?_
   refine yA_ ?_
   refine RO_nil ?_
   refine W_cond rfl (fun hc3 => ?_) (fun hc3 => ?_)
   ·
    refine W_seq (W_regl fun w0 => ?_)
    refine yL (ov_build (fs := fs57) (ds := []) rfl rfl bl58 trivial rfl) ?_
    refine LO_l rfl trivial (ol_sw0 rfl rfl rfl rfl yf tok58 ?_)
    refine LO_nil ?_
    refine W_ret ?_
    refine ⟨trivial, yb, (ResV_cell rfl rfl ye rfl tok58 ?_)⟩
    exact xbjy
   ·
    refine W_seq (W_reg ?_)
    refine yR (ov_fieldAddr rfl rfl fa31_4 rfl) ?_
    refine yR (ov_load rfl rfl ye ⟨trivial, yn⟩ rfl rfl tok5) ?_
    refine yR (ov_eql rfl rfl rfl) ?_
    refine yA_ ?_
    refine RO_nil ?_
    refine W_cond rfl (fun hc4 => ?_) (fun hc4 => ?_)
    ·
     refine W_seq (W_regl fun w0 => ?_)
     refine yQ (yV rfl rfl rfl Tryz.call184 (by apply c_legal_wins <;> exact yz)) ?_
     refine LO_l rfl trivial (ol_sw0 rfl rfl rfl rfl yf tok58 ?_)
     refine LO_nil ?_
     refine W_ret ?_
     refine ⟨trivial, yb, (ResV_cell rfl rfl ye rfl tok58 ?_)⟩
     exact xbjy
    ·
     refine W_skip ?_
     refine W_seq (W_regl fun w0 => ?_)
     refine yL (ov_load rfl rfl ye trivial rfl rfl tok31) ?_
     refine yQ (yV rfl rfl rfl Tryz.call115 (by apply c_board_Find <;> exact yz)) ?_
     refine LO_l rfl (by decide : 6 < 40) (ol_alloc (t := i64) rfl tok3 yf (fun b3 => ?_))
     refine LO_l rfl trivial (ol_sw0 rfl rfl rfl rfl yf tok3 ?_)
     refine LO_nil ?_
     refine W_seq (W_reg ?_)
     refine yR (ov_makeFunc rfl rfl rfl) ?_
     refine yA_ ?_
     refine RO_nil ?_
     refine W_seq ?_
     refine W_seq (W_regl fun w0 => ?_)
     refine yL (ov_load rfl rfl ye trivial rfl rfl tok31) ?_
     refine LO_l rfl (by decide : 35 < 40) (ol_call (v0 := []) (v2 := []) rfl rfl rfl Tryz.call35 (Con.mono (by apply c_legal_would <;> exact yz) ?_))
     rintro vw _ rfl
     refine zM ?_
     refine yQ (yV rfl rfl rfl Tryz.call83 (c_slices_ContainsFunc vw (wouldP p) 189 [ptrv b3 i64 []] (comesP (firstB (ofB p 1 6))) _ Tryz.call189 (fun x hx => c_legal_goal_2 x (allL_mok hp (wouldP_mem hx)) _ b3 _ _ ye) (hl_row (.head _)) hwl)) ?_
     refine LO_nil ?_
     refine W_cond rfl (fun hc5 => ?_) (fun hc5 => ?_)
     ·
      refine W_seq (W_regl fun w0 => ?_)
      refine yL (ov_build (fs := fs57) (ds := []) rfl rfl bl58 trivial rfl) ?_
      refine LO_l rfl trivial (ol_sw2 rfl rfl rfl rfl yf tok58 ?_)
      refine LO_nil ?_
      refine W_ret ?_
      refine ⟨trivial, yb, (ResV_cell rfl rfl ye rfl tok58 ?_)⟩
      exact xbjy
     ·
      refine W_skip ?_
      refine W_seq (W_regl fun w0 => ?_)
      refine yQ (yV rfl rfl rfl Tryz.call184 (by apply c_legal_wins <;> exact yz)) ?_
      refine LO_l rfl trivial (ol_sw2 rfl rfl rfl rfl yf tok58 ?_)
      refine LO_nil ?_
      refine W_ret ?_
      refine ⟨trivial, yb, (ResV_cell rfl rfl ye rfl tok58 ?_)⟩
      exact xbjy

theorem c_legal_winners (M : List Fact) : Pure Tryz.prog 72 [] M (enc (.ar 9 (.st [.fn])) winT) := by
 have hww := winT_wf
 refine pure_of_W (n := 8) Tryz.func72 rfl rfl yn ?_
 refine W_seq (W_regl fun w0 => ?_)
 refine LO_l rfl (by decide : 0 < 8) (ol_alloc (t := (.ar 9 (.st [.fn]))) rfl tok101 yf (fun b1 => ?_))
 refine LO_nil ?_
 refine W_seq (W_regl fun w0 => ?_)
 refine yL (ov_build (fs := fs99) (ds := [⟨0, (some (141, [], []) : FnV)⟩]) rfl rfl bl100 ⟨yn, yf, trivial⟩ rfl) ?_
 refine yL (ov_build (fs := fs99) (ds := [⟨0, (some (142, [], []) : FnV)⟩]) rfl rfl bl100 ⟨yn, yf, trivial⟩ rfl) ?_
 refine yL (ov_build (fs := fs99) (ds := [⟨0, (some (143, [], []) : FnV)⟩]) rfl rfl bl100 ⟨yn, yf, trivial⟩ rfl) ?_
 refine yL (ov_build (fs := fs99) (ds := [⟨0, (some (144, [], []) : FnV)⟩]) rfl rfl bl100 ⟨yn, yf, trivial⟩ rfl) ?_
 refine yL (ov_build (fs := fs99) (ds := [⟨0, (some (145, [], []) : FnV)⟩]) rfl rfl bl100 ⟨yn, yf, trivial⟩ rfl) ?_
 refine yL (ov_build (fs := fs99) (ds := [⟨0, (some (146, [], []) : FnV)⟩]) rfl rfl bl100 ⟨yn, yf, trivial⟩ rfl) ?_
 refine yL (ov_buildA (t := (.st [.fn])) (ds := [(3, _), (5, _), (6, _), (7, _), (4, _), (8, _)]) rfl rfl bl101 ⟨yn, yf, ⟨yn, yf, ⟨yn, yf, ⟨yn, yf, ⟨yn, yf, ⟨yn, yf, trivial⟩⟩⟩⟩⟩⟩ rfl) ?_
 refine LO_l rfl trivial (ol_sw0 rfl rfl rfl rfl yf tok101 ?_)
 refine LO_nil ?_
 refine W_ret ?_
 refine ⟨trivial, yb, (ResV_cell rfl rfl ye rfl tok101 ?_)⟩
 rfl

theorem win_ok {p : Pos} (hp : POK p) (h0 : 0 ≤ vr p) (h9 : vr p < 9) (ht : tu p ≤ 1) (h : (winAt (vr p)).1.isSome = true) : ∃ f, (winAt (vr p)).1 = some (f, [], []) ∧ (∀ av w, (callFunc f av).run Tryz.prog w = .ok (.enter f av) w) ∧ ∀ M, TAB ∈ M → Pure Tryz.prog f [enc posT p] M (enc resT (wonBy p)) := by
  rcases fin9 h0 h9 with e | e | e | e | e | e | e | e | e <;> rw [e] at h ⊢
  · cases h
  · cases h
  · cases h
  · exact ⟨_, rfl, Tryz.call141, fun M hT => by rw [wonBy_3 e]; exact c_legal_blown p hp M hT ht⟩
  · exact ⟨_, rfl, Tryz.call145, fun M hT => by rw [wonBy_4 e]; exact c_legal_bare p hp M ht⟩
  · exact ⟨_, rfl, Tryz.call142, fun M hT => by rw [wonBy_5 e]; exact c_legal_checks p hp M ht⟩
  · exact ⟨_, rfl, Tryz.call143, fun M hT => by rw [wonBy_6 e]; exact c_legal_onHill p hp M hT ht⟩
  · exact ⟨_, rfl, Tryz.call144, fun M hT => by rw [wonBy_7 e]; exact c_legal_horde p hp M⟩
  · exact ⟨_, rfl, Tryz.call146, fun M hT => by rw [wonBy_8 e]; exact c_legal_goal p hp M hT⟩

theorem c_legal_Won (p : Pos) (hp : POK p) (M : List Fact) (hT : TAB ∈ M) : Pure Tryz.prog 34 [enc posT p] M (enc resT (wonP p)) := by
 have hb := hp.board
 have hpw := hp.wf
 have hvr := hp.vr
 have htu := hp.tu
 have hpg := hp.pg
 have hvr0 := hp.vr
 have htu0 := hp.tu
 simp only [vr] at hvr0
 simp only [tu] at htu0
 have hww := winT_wf
 refine pure_of_W (n := 25) Tryz.func34 rfl rfl yn ?_
 refine W_seq (W_regl fun w0 => ?_)
 refine LO_l rfl (by decide : 1 < 25) (ol_box (t := posT) rfl rfl rfl yf (fun b1 => ?_))
 refine LO_l rfl (by decide : 2 < 25) (ol_alloc (t := resT) rfl tok58 yf (fun b2 => ?_))
 refine LO_nil ?_
 refine W_seq ?_
 refine W_seq (W_reg ?_)
 refine yR (ov_fieldAddr rfl rfl fa31_0 rfl) ?_
 refine yR (ov_load rfl rfl ye ⟨trivial, yn⟩ rfl rfl tok5) ?_
 refine yR (ov_geq rfl rfl rfl) ?_
 refine yM ?_
 refine yG (fun hg => OpX.v (ov_fieldAddr rfl rfl fa31_4 rfl)) ?_
 refine yG (fun hg => OpX.v (ov_load rfl (look_gv rfl (bq hg)) ye ⟨trivial, yn⟩ rfl rfl tok5)) ?_
 refine yG (fun hg => OpX.v (ov_gtr rfl (look_gv rfl (bq hg)) rfl)) ?_
 refine yR (ov_or rfl rfl rfl rfl (fun h => bq h)) ?_
 refine RO_nil ?_
 refine W_cond rfl (fun hc1 => ?_) (fun hc1 => ?_)
 ·
  refine W_seq (W_regl fun w0 => ?_)
  refine yL (ov_build (fs := fs57) (ds := []) rfl rfl bl58 trivial rfl) ?_
  refine LO_l rfl trivial (ol_sw0 rfl rfl rfl rfl yf tok58 ?_)
  refine LO_nil ?_
  refine W_ret ?_
  refine ⟨trivial, yb, (ResV_cell rfl rfl ye rfl tok58 ?_)⟩
  exact xbky
 ·
  have ht : tu p ≤ 1 := Int.not_lt.1 (of_decide_eq_false (Bool.or_eq_false_iff.1 hc1).2)
  have hv9 : vr p < 9 := Int.not_le.1 (of_decide_eq_false (Bool.or_eq_false_iff.1 hc1).1)
  have hv9_ := hv9
  simp only [vr] at hv9_
  have hwv := winAt_wf (vr p)
  refine W_skip ?_
  refine W_seq ?_
  refine W_seq ?_
  refine W_regD (fun i => !Nat.beq i 5) mixed (fun w0 => ?_)
  refine D_mem0 (i := 1) rfl yk yk rfl rfl yd (ov_fieldAddr rfl rfl fa31_0 rfl) ?_
  refine D_mem0 (i := 2) rfl yk yk rfl rfl yd (ov_load rfl rfl ye ⟨trivial, yn⟩ rfl rfl tok5) ?_
  refine D_two (i := 0) (j := 4) rfl rfl yk rfl rfl (by decide : 13 < 25) (by decide : 3 < 25) ((OpL_two (yV rfl rfl rfl Tryz.call72 (by apply c_legal_winners <;> exact yz)) ⟨xaay, ?_⟩)) (ol_alloc (t := (.st [.fn])) rfl tok100 yf (fun b3 => ⟨xaay, ?_⟩))
  ·
   refine D_mem0 (i := 3) rfl yk yk rfl rfl yd (ov_index (t := (.ar 9 (.st [.fn]))) rfl rfl yf rfl rfl Tryz.underlying101 ya ya (tn ya ya) rfl rfl rfl tok100) ?_
   refine D_one (i := 4) rfl yk rfl (by decide : 3 < 25) (ol_alloc (t := (.st [.fn])) rfl tok100 yf (fun b4 => ⟨xaay, ?_⟩))
   refine D_one (i := 5) rfl yk rfl trivial (ol_sw0 rfl rfl rfl rfl yf tok100 ⟨xaay, ?_⟩)
   refine D_end yk ?_
   refine W_seq (W_reg ?_)
   refine yR (ov_fieldAddr rfl rfl fa100_0 rfl) ?_
   refine yR (ov_load rfl rfl ye ⟨trivial, yn⟩ rfl rfl tok59) ?_
   refine yR (ov_neqfn rfl rfl rfl Tryz.underlying59) ?_
   refine RO_nil ?_
   refine W_cond rfl (fun hc2 => ?_) (fun hc2 => ?_)
   ·
    obtain ⟨f, hfn, hcf, hpf⟩ := win_ok hp hvr.1 hv9 ht hc2
    refine W_seq (W_regl fun w0 => ?_)
    refine yL (ov_fieldAddr rfl rfl fa100_0 rfl) ?_
    refine yL (ov_load (v := .func (.func f) #[] #[]) rfl rfl ye ⟨trivial, yn⟩ rfl (congrArg (fun q => some (encFn q)) hfn) tok59) ?_
    refine yL (ov_load rfl rfl ye trivial rfl rfl tok31) ?_
    refine yQ (ov_call  rfl rfl rfl hcf (hpf _ ye)) ?_
    refine LO_l rfl trivial (ol_sw1 rfl rfl rfl rfl yf tok58 ?_)
    refine LO_nil ?_
    refine W_ret ?_
    refine ⟨trivial, yb, (ResV_cell rfl rfl ye rfl tok58 ?_)⟩
    exact xbky
   ·
    refine W_skip ?_
    refine W_seq (W_regl fun w0 => ?_)
    refine yL (ov_build (fs := fs57) (ds := []) rfl rfl bl58 trivial rfl) ?_
    refine LO_l rfl trivial (ol_sw1 rfl rfl rfl rfl yf tok58 ?_)
    refine LO_nil ?_
    refine W_ret ?_
    refine ⟨trivial, yb, (ResV_cell rfl rfl ye rfl tok58 ?_)⟩
    exact xbky
  ·
   refine D_oneV (i := 0) rfl yk rfl rfl yd xaay (yV rfl rfl rfl Tryz.call72 (by apply c_legal_winners <;> exact yz)) ?_
   refine D_oneV (i := 3) rfl yk rfl rfl yd xaay (OpX.v (ov_index (t := (.ar 9 (.st [.fn]))) rfl rfl yf rfl rfl Tryz.underlying101 ya ya (tn ya ya) rfl rfl rfl tok100)) ?_
   refine D_one (i := 5) rfl yk rfl trivial (ol_sw0 rfl rfl rfl rfl yf tok100 ⟨xaay, ?_⟩)
   refine D_end yk ?_
   refine W_seq (W_reg ?_)
   refine yR (ov_fieldAddr rfl rfl fa100_0 rfl) ?_
   refine yR (ov_load rfl rfl ye ⟨trivial, yn⟩ rfl rfl tok59) ?_
   refine yR (ov_neqfn rfl rfl rfl Tryz.underlying59) ?_
   refine RO_nil ?_
   refine W_cond rfl (fun hc3 => ?_) (fun hc3 => ?_)
   ·
    obtain ⟨f, hfn, hcf, hpf⟩ := win_ok hp hvr.1 hv9 ht hc3
    refine W_seq (W_regl fun w0 => ?_)
    refine yL (ov_fieldAddr rfl rfl fa100_0 rfl) ?_
    refine yL (ov_load (v := .func (.func f) #[] #[]) rfl rfl ye ⟨trivial, yn⟩ rfl (congrArg (fun q => some (encFn q)) hfn) tok59) ?_
    refine yL (ov_load rfl rfl ye trivial rfl rfl tok31) ?_
    refine yQ (ov_call  rfl rfl rfl hcf (hpf _ ye)) ?_
    refine LO_l rfl trivial (ol_sw1 rfl rfl rfl rfl yf tok58 ?_)
    refine LO_nil ?_
    refine W_ret ?_
    refine ⟨trivial, yb, (ResV_cell rfl rfl ye rfl tok58 ?_)⟩
    exact xbky
   ·
    refine W_skip ?_
    refine W_seq (W_regl fun w0 => ?_)
    refine yL (ov_build (fs := fs57) (ds := []) rfl rfl bl58 trivial rfl) ?_
    refine LO_l rfl trivial (ol_sw1 rfl rfl rfl rfl yf tok58 ?_)
    refine LO_nil ?_
    refine W_ret ?_
    refine ⟨trivial, yb, (ResV_cell rfl rfl ye rfl tok58 ?_)⟩
    exact xbky

theorem c_legal_List (p : Pos) (hp : POK p) (M : List Fact) (hT : TAB ∈ M) : Con Tryz.prog 15 [enc posT p] M (fun u M' => M' = .row u 55 moveT (legalL p) :: M) := by
 have hb := hp.board
 have hpw := hp.wf
 have hvr := hp.vr
 have htu := hp.tu
 have hpg := hp.pg
 have hvr0 := hp.vr
 have htu0 := hp.tu
 simp only [vr] at hvr0
 simp only [tu] at htu0
 refine con_of_W (n := 9) Tryz.func15 rfl rfl yn ?_
 refine W_seq (W_regl fun w0 => ?_)
 refine LO_l rfl (by decide : 1 < 9) (ol_box (t := posT) rfl rfl rfl yf (fun b1 => ?_))
 refine zA ?_
 refine LO_nil ?_
 refine W_seq ?_
 refine W_seq (W_reg ?_)
 refine yR (ov_load rfl rfl ye trivial rfl rfl tok31) ?_
 refine yP (yV rfl rfl rfl Tryz.call34 (by apply c_legal_Won <;> exact yz)) ?_
 refine yR (ov_field (t := resT) rfl rfl yf rfl Tryz.underlying58 rfl yn rfl rfl rfl tok5) ?_
 refine yR (ov_neq rfl rfl rfl) ?_
 refine RO_nil ?_
 refine W_cond rfl (fun hc1 => ?_) (fun hc1 => ?_)
 ·
  refine W_seq ?_
  refine W_row 55 moveT ?_
  refine W_reg ?_
  refine yA_ ?_
  refine RO_nil ?_
  refine W_ret ?_
  refine ⟨trivial, _, .row _ 55 moveT (legalL p) :: M, (ResV_tmp1 rfl rfl rfl), ?_, rfl⟩
  first | (rw [show legalL p = _ from if_pos hc1]; exact yb) | (rw [show legalL p = _ from if_neg (Bool.eq_false_iff.1 hc1)]; exact yb)
 ·
  refine W_skip ?_
  refine W_seq (W_regl fun w0 => ?_)
  refine yL (ov_load rfl rfl ye trivial rfl rfl tok31) ?_
  refine LO_l rfl (by decide : 8 < 9) (ol_call (v0 := []) (v2 := []) rfl rfl rfl Tryz.call35 (Con.mono (by apply c_legal_would <;> exact yz) ?_))
  rintro vw _ rfl
  refine zA ?_
  refine LO_nil ?_
  refine W_ret ?_
  refine ⟨trivial, _, .row _ 55 moveT (legalL p) :: M, (ResV_tmp1 rfl rfl rfl), ?_, rfl⟩
  first | (rw [show legalL p = _ from if_pos hc1]; exact yb) | (rw [show legalL p = _ from if_neg (Bool.eq_false_iff.1 hc1)]; exact yb)
end Go.Kw
set_option linter.unusedVariables false
set_option linter.unusedSimpArgs false
namespace Go.Kw
open Go.Proofs
theorem tok77 : TyOK Tryz.prog 77 (.st [.fn]) := ⟨Tryz.isAgg77, Tryz.sizeOf77, Tryz.zeroValue77⟩
theorem tok78 : TyOK Tryz.prog 78 (.ar 4 (.st [.fn])) := ⟨Tryz.isAgg78, Tryz.sizeOf78, Tryz.zeroValue78⟩
abbrev fs76 : List Ty := [.fn]
set_option maxRecDepth 20000 in
theorem bl77 : BuildOK Tryz.prog 77 fs76 := ⟨_, _, rfl, rfl, Tryz.underlying77, by kernel_rfl⟩
set_option maxRecDepth 20000 in
theorem bl78 : BuildOKa Tryz.prog 78 4 (.st [.fn]) := ⟨_, _, _, rfl, rfl, Tryz.underlying78, rfl, rfl⟩
theorem fa58_0 : FA Tryz.prog 58 0 0 := fun a w => by simp [Instr.fieldAt, Tryz.runUnderlying58, Instr.sureAddr, fieldPlace, Tryz.sizeOf5]
theorem fa77_0 : FA Tryz.prog 77 0 0 := fun a w => by simp [Instr.fieldAt, Tryz.runUnderlying77, Instr.sureAddr, fieldPlace, Tryz.sizeOf59]

theorem or_t1 {a b : Bool} (h : a = true) : a = (a || b) := by subst h; rfl
theorem or_f1 {a b : Bool} (h : a = false) : b = (a || b) := by subst h; rfl
def drawP (w : Int) : Res := ((3 : Int), w, ())
def stuckP (p : Pos) : Res := if decide (0 < ((legalL p).length : Int)) = true then zero resT else if decide (vr p = 4) = true then (1 + tu p, (8 : Int), ()) else if checkP p (tu p) = true then (2 - tu p, (1 : Int), ()) else drawP 2
def bothB (p : Pos) (kd : Int) : BitVec 64 := ofB p 0 kd ||| ofB p 1 kd
def menB (p : Pos) : BitVec 64 := allB p &&& ~~~bothB p 6
def lightB : BitVec 64 := 6172840429334713770#64
def fewP (p : Pos) : Bool := decide (onesI (menB p) ≤ 1) || (decide (menB p = bothB p 3) && (decide (menB p &&& lightB = 0#64) || decide (menB p &&& ~~~lightB = 0#64)))
def kingsP (p : Pos) : Bool := (decide (allB p = ofB p 0 6 ||| ofB p 1 6) && decide (onesI (ofB p 0 6) = 1)) && decide (onesI (ofB p 1 6) = 1)
def matP (p : Pos) : Bool :=
  if (decide (vr p = 0) || decide (vr p = 1)) = true then (if (!decide ((menB p &&& ~~~bothB p 3) &&& ~~~bothB p 2 = 0#64)) = true then false else fewP p)
  else if (decide (vr p = 3) || decide (vr p = 5)) = true then kingsP p else false
def littleP (p : Pos) : Res := if matP p = true then drawP 3 else zero resT
def lateP (p : Pos) : Res := if decide (150 ≤ hf p) = true then drawP 4 else zero resT
def askT : List (El (.st [.fn])) := [((some (34, [], []) : FnV), ()), ((some (126, [], []) : FnV), ()), ((some (127, [], []) : FnV), ()), ((some (128, [], []) : FnV), ())]
theorem askT_wf : wf (.ar 4 (.st [.fn])) askT := ⟨rfl, fun _ _ => ⟨trivial, trivial⟩⟩
def askR (p : Pos) : Nat → Res
  | 0 => wonP p
  | 1 => stuckP p
  | 2 => littleP p
  | _ => lateP p
def pickR (a b : Res) : Res := if (!decide (a.1 = 0)) = true then a else b
def outP (p : Pos) : Res := if (decide (9 ≤ vr p) || decide (1 < tu p)) = true then zero resT else pickR (wonP p) (pickR (stuckP p) (pickR (littleP p) (pickR (lateP p) (zero resT))))
def endedP (p : Pos) : Bool := !decide ((outP p).1 = 0)
theorem ask_step {p : Pos} {i : Nat} (h : ∀ j, j < i → (askR p j).1 = 0) (hi : (!decide ((askR p i).1 = 0)) = false) : ∀ j, j < i + 1 → (askR p j).1 = 0 := fun j hj => by
  rcases Nat.lt_or_ge j i with h' | h'
  · exact h j h'
  · rw [show j = i by omega]; simpa using hi
theorem out_a {p : Pos} (h : (decide (9 ≤ vr p) || decide (1 < tu p)) = true) : outP p = zero resT := by unfold outP; rw [if_pos h]
theorem pick_z {a b : Res} (h : a.1 = 0) : pickR a b = b := by unfold pickR; rw [if_neg (by simp [h])]
theorem pick_n {a b : Res} (h : (!decide (a.1 = 0)) = true) : pickR a b = a := by unfold pickR; rw [if_pos h]
theorem out_b {p : Pos} {i : Nat} (h : (decide (9 ≤ vr p) || decide (1 < tu p)) = false) (hH : ∀ j, j < i → (askR p j).1 = 0) (hi : i < 4) (h2 : (!decide ((askR p i).1 = 0)) = true) : outP p = askR p i := by
  unfold outP; rw [if_neg xawy]
  match i, hi with
  | 0, _ => exact pick_n h2
  | 1, _ => rw [pick_z (show (wonP p).1 = 0 from hH 0 yo)]; exact pick_n h2
  | 2, _ => rw [pick_z (show (wonP p).1 = 0 from hH 0 yo), pick_z (show (stuckP p).1 = 0 from hH 1 yo)]; exact pick_n h2
  | 3, _ => rw [pick_z (show (wonP p).1 = 0 from hH 0 yo), pick_z (show (stuckP p).1 = 0 from hH 1 yo), pick_z (show (littleP p).1 = 0 from hH 2 yo)]; exact pick_n h2
theorem out_c {p : Pos} {i : Nat} (h : (decide (9 ≤ vr p) || decide (1 < tu p)) = false) (hH : ∀ j, j < i → (askR p j).1 = 0) (hi : 4 ≤ i) : outP p = zero resT := by
  unfold outP; rw [if_neg xawy, pick_z (show (wonP p).1 = 0 from hH 0 yo), pick_z (show (stuckP p).1 = 0 from hH 1 yo), pick_z (show (littleP p).1 = 0 from hH 2 yo), pick_z (show (lateP p).1 = 0 from hH 3 yo)]

theorem c_outcome_draw (w : Int) (M : List Fact) : Pure Tryz.prog 175 [.int .u8 w] M (enc resT (drawP w)) := by
 refine pure_of_W (n := 5) Tryz.func175 rfl rfl yn ?_
 refine W_seq (W_regl fun w0 => ?_)
 refine LO_l rfl (by decide : 2 < 5) (ol_alloc (t := resT) rfl tok58 yf (fun b1 => ?_))
 refine LO_nil ?_
 refine W_seq (W_regl fun w0 => ?_)
 refine zM ?_
 refine yL (ov_build (fs := fs57) (ds := [⟨0, _⟩, ⟨1, _⟩]) rfl rfl bl58 ⟨yn, yf, ⟨yn, yf, trivial⟩⟩ rfl) ?_
 refine LO_l rfl trivial (ol_sw0 rfl rfl rfl rfl yf tok58 ?_)
 refine LO_nil ?_
 refine W_ret ?_
 refine ⟨trivial, yb, (ResV_cell rfl rfl ye rfl tok58 ?_)⟩
 rfl

theorem c_outcome_stuck (p : Pos) (hp : POK p) (M : List Fact) (hT : TAB ∈ M) (ht : tu p ≤ 1) : Pure Tryz.prog 126 [enc posT p] M (enc resT (stuckP p)) := by
 have hb := hp.board
 have hpw := hp.wf
 have hvr := hp.vr
 have htu := hp.tu
 have hpg := hp.pg
 have hvr0 := hp.vr
 have htu0 := hp.tu
 simp only [vr] at hvr0
 simp only [tu] at htu0
 have ht2 := ht
 simp only [tu] at ht2
 refine pure_of_W (n := 26) Tryz.func126 rfl rfl yn ?_
 refine W_seq (W_regl fun w0 => ?_)
 refine LO_l rfl (by decide : 1 < 26) (ol_box (t := posT) rfl rfl rfl yf (fun b1 => ?_))
 refine LO_l rfl (by decide : 2 < 26) (ol_alloc (t := resT) rfl tok58 yf (fun b2 => ?_))
 refine LO_nil ?_
 refine W_seq ?_
 refine W_seq (W_regl fun w0 => ?_)
 refine yL (ov_load rfl rfl ye trivial rfl rfl tok31) ?_
 refine LO_l rfl (by decide : 4 < 26) (ol_call (v0 := []) (v2 := []) rfl rfl rfl Tryz.call15 (Con.mono (by apply c_legal_List <;> exact yz) ?_))
 rintro vl _ rfl
 refine yL (ov_len rfl rfl xaby Tryz.underlying48) ?_
 refine yL (ov_gtr rfl rfl rfl) ?_
 refine LO_nil ?_
 refine W_cond rfl (fun hc1 => ?_) (fun hc1 => ?_)
 ·
  refine W_seq (W_regl fun w0 => ?_)
  refine yL (ov_build (fs := fs57) (ds := []) rfl rfl bl58 trivial rfl) ?_
  refine LO_l rfl trivial (ol_sw1 rfl rfl rfl rfl yf tok58 ?_)
  refine LO_nil ?_
  refine W_ret ?_
  refine ⟨trivial, yb, (ResV_cell rfl rfl ye rfl tok58 ?_)⟩
  exact xbly
 ·
  refine W_skip ?_
  refine W_seq ?_
  refine W_block ?_
  refine W_seq (W_reg ?_)
  refine yR (ov_fieldAddr rfl rfl fa31_0 rfl) ?_
  refine yR (ov_load rfl rfl ye ⟨trivial, yn⟩ rfl rfl tok5) ?_
  refine yR (ov_eql rfl rfl rfl) ?_
  refine yA_ ?_
  refine RO_nil ?_
  refine W_cond rfl (fun hc2 => ?_) (fun hc2 => ?_)
  ·
   refine W_seq (W_regl fun w0 => ?_)
   refine yL (ov_fieldAddr rfl rfl fa31_4 rfl) ?_
   refine yL (ov_load rfl rfl ye ⟨trivial, yn⟩ rfl rfl tok5) ?_
   refine yL (ov_add rfl rfl rfl ya) ?_
   refine yL (ov_build (fs := fs57) (ds := [⟨0, _⟩, ⟨1, _⟩]) rfl rfl bl58 ⟨yn, yf, ⟨yn, yf, trivial⟩⟩ rfl) ?_
   refine LO_l rfl trivial (ol_sw1 rfl rfl rfl rfl yf tok58 ?_)
   refine LO_nil ?_
   refine W_ret ?_
   refine ⟨trivial, yb, (ResV_cell rfl rfl ye rfl tok58 ?_)⟩
   exact xbly
  ·
   refine W_seq (W_reg ?_)
   refine yR (ov_load rfl rfl ye trivial rfl rfl tok31) ?_
   refine yR (ov_fieldAddr rfl rfl fa31_4 rfl) ?_
   refine yR (ov_load rfl rfl ye ⟨trivial, yn⟩ rfl rfl tok5) ?_
   refine yP (yV rfl rfl rfl Tryz.call32 (c_attack_Check p hp (tu p) _ ye htu.1 ht)) ?_
   refine yA_ ?_
   refine RO_nil ?_
   refine W_cond rfl (fun hc3 => ?_) (fun hc3 => ?_)
   ·
    refine W_seq (W_regl fun w0 => ?_)
    refine yL (ov_fieldAddr rfl rfl fa31_4 rfl) ?_
    refine yL (ov_load rfl rfl ye ⟨trivial, yn⟩ rfl rfl tok5) ?_
    refine yL (ov_sub rfl rfl rfl ya) ?_
    refine yL (ov_build (fs := fs57) (ds := [⟨0, _⟩, ⟨1, _⟩]) rfl rfl bl58 ⟨yn, yf, ⟨yn, yf, trivial⟩⟩ rfl) ?_
    refine LO_l rfl trivial (ol_sw1 rfl rfl rfl rfl yf tok58 ?_)
    refine LO_nil ?_
    refine W_ret ?_
    refine ⟨trivial, yb, (ResV_cell rfl rfl ye rfl tok58 ?_)⟩
    exact xbly
   ·
    refine W_skip ?_
    refine W_seq (W_regl fun w0 => ?_)
    refine yQ (yV rfl rfl rfl Tryz.call175 (by apply c_outcome_draw <;> exact yz)) ?_
    refine LO_l rfl trivial (ol_sw1 rfl rfl rfl rfl yf tok58 ?_)
    refine LO_nil ?_
    refine W_ret ?_
    refine ⟨trivial, yb, (ResV_cell rfl rfl ye rfl tok58 ?_)⟩
    exact xbly

theorem c_outcome_of (p : Pos) (hp : POK p) (kd : Int) (M : List Fact) : Pure Tryz.prog 205 [enc posT p, .int .u8 kd] M (u64v (bothB p kd)) := by
 have hb := hp.board
 have hpw := hp.wf
 have hvr := hp.vr
 have htu := hp.tu
 have hpg := hp.pg
 have hvr0 := hp.vr
 have htu0 := hp.tu
 simp only [vr] at hvr0
 simp only [tu] at htu0
 refine pure_of_W (n := 12) Tryz.func205 rfl rfl yn ?_
 refine W_seq (W_regl fun w0 => ?_)
 refine LO_l rfl (by decide : 2 < 12) (ol_box (t := posT) rfl rfl rfl yf (fun b1 => ?_))
 refine yL (ov_assign (v := u64v 0#64) rfl rfl) ?_
 refine LO_nil ?_
 refine W_seq ?_
 refine W_regd mixed yk ?_
 refine yR (ov_load rfl rfl ye trivial rfl rfl tok31) ?_
 refine yM ?_
 refine yP (yV rfl rfl rfl Tryz.call117 xauy) ?_
 refine yR (ov_load rfl rfl ye trivial rfl rfl tok31) ?_
 refine yM ?_
 refine yP (yV rfl rfl rfl Tryz.call117 xauy) ?_
 refine yR (ov_bits rfl rfl rfl (.inr (.inl ⟨rfl, rfl⟩))) ?_
 refine yA_ ?_
 refine RO_nil ?_
 refine W_ret ?_
 refine ⟨trivial, yb, (ResV_tmp1 rfl rfl ?_)⟩
 rfl

theorem c_outcome_Material (p : Pos) (hp : POK p) (M : List Fact) : Pure Tryz.prog 176 [enc posT p] M (.bool (matP p)) := by
 have hb := hp.board
 have hpw := hp.wf
 have hvr := hp.vr
 have htu := hp.tu
 have hpg := hp.pg
 have hvr0 := hp.vr
 have htu0 := hp.tu
 simp only [vr] at hvr0
 simp only [tu] at htu0
 refine pure_of_W (n := 68) Tryz.func176 rfl rfl yn ?_
 refine W_seq (W_regl fun w0 => ?_)
 refine LO_l rfl (by decide : 1 < 68) (ol_box (t := posT) rfl rfl rfl yf (fun b1 => ?_))
 refine zA ?_
 refine LO_nil ?_
 refine W_seq (W_reg ?_)
 refine yR (ov_load rfl rfl ye trivial rfl rfl tok31) ?_
 refine yP (yV rfl rfl rfl Tryz.call162 (by apply c_board_All <;> exact yz)) ?_
 refine yA_ ?_
 refine RO_nil ?_
 refine W_seq ?_
 refine W_seq (W_reg ?_)
 refine yR (ov_fieldAddr rfl rfl fa31_0 rfl) ?_
 refine yR (ov_load rfl rfl ye ⟨trivial, yn⟩ rfl rfl tok5) ?_
 refine RO_nil ?_
 refine W_block ?_
 refine W_cut [(1, ptrv b1 posT []), (3, u64v (allB p)), (11, .int .u8 (vr p)), (12, .bool (decide (vr p = 0) || decide (vr p = 1)))] (.box b1 31 posT p :: M) ?_ ?_
 ·
  refine W_seq (W_reg ?_)
  refine yR (ov_eql rfl rfl rfl) ?_
  refine yA_ ?_
  refine RO_nil ?_
  refine W_cond rfl (fun hc1 => ?_) (fun hc1 => ?_)
  ·
   refine W_skip ?_
   exact ⟨⟨rfl, rfl, rfl, congrArg some (val_bool (by first | exact or_t1 hc1 | exact or_f1 hc1)), trivial⟩, yb⟩
  ·
   refine W_reg ?_
   refine yR (ov_eql rfl rfl rfl) ?_
   refine yA_ ?_
   refine RO_nil ?_
   exact ⟨⟨rfl, rfl, rfl, congrArg some (val_bool (by first | exact or_t1 hc1 | exact or_f1 hc1)), trivial⟩, yb⟩
 ·
  refine W_cond rfl (fun hc2 => ?_) (fun hc2 => ?_)
  ·
   refine W_seq (W_reg ?_)
   refine yM ?_
   refine yR (ov_load rfl rfl ye trivial rfl rfl tok31) ?_
   refine yP (yV rfl rfl rfl Tryz.call205 (by apply c_outcome_of <;> exact yz)) ?_
   refine yR (ov_bits rfl rfl rfl (.inr (.inr (.inr ⟨rfl, rfl⟩)))) ?_
   refine yA_ ?_
   refine RO_nil ?_
   refine W_seq (W_reg ?_)
   refine yR (ov_load rfl rfl ye trivial rfl rfl tok31) ?_
   refine yP (yV rfl rfl rfl Tryz.call205 (by apply c_outcome_of <;> exact yz)) ?_
   refine yA_ ?_
   refine RO_nil ?_
   refine W_seq ?_
   refine W_seq (W_reg ?_)
   refine yM ?_
   refine yM ?_
   refine yR (ov_bits rfl rfl rfl (.inr (.inr (.inr ⟨rfl, rfl⟩)))) ?_
   refine yR (ov_load rfl rfl ye trivial rfl rfl tok31) ?_
   refine yP (yV rfl rfl rfl Tryz.call205 (by apply c_outcome_of <;> exact yz)) ?_
   refine yR (ov_bits rfl rfl rfl (.inr (.inr (.inr ⟨rfl, rfl⟩)))) ?_
   refine yR (ov_neq64 (b := 0#64) rfl rfl rfl) ?_
   refine RO_nil ?_
   refine W_cond rfl (fun hc3 => ?_) (fun hc3 => ?_)
   ·
    refine W_seq (W_reg ?_)
    refine yA_ ?_
    refine RO_nil ?_
    refine W_ret ?_
    refine ⟨trivial, yb, (ResV_tmp1 rfl rfl ?_)⟩
    exact xbmy
   ·
    refine W_skip ?_
    refine W_seq (W_reg ?_)
    refine yM ?_
    refine yP (yV rfl rfl rfl Tryz.call206 (by apply c_math_bits_OnesCount64 <;> exact yz)) ?_
    refine yR (ov_leq rfl rfl rfl) ?_
    refine yM ?_
    refine yG (fun hg => OpX.v (ov_move rfl rfl)) ?_
    refine yG (fun hg => OpX.v (ov_move rfl rfl)) ?_
    refine yG (fun hg => OpX.v (ov_eql64 rfl (look_gv rfl (bq hg)) (look_gv rfl (bq hg)))) ?_
    refine yG (fun hg => OpX.v (ov_move rfl (look_gv rfl (bq hg)))) ?_
    refine RO_g rfl rfl rfl rfl rfl yd (fun hg1 hg2 => OpX.v (ov_move rfl rfl)) ?_
    refine RO_g rfl rfl rfl rfl rfl yd (fun hg1 hg2 => OpX.v (ov_bits (b := 6172840429334713770#64) rfl (look_gv rfl (bq2 hg1 hg2)) rfl (.inl ⟨rfl, rfl⟩))) ?_
    refine RO_g rfl rfl rfl rfl rfl yd (fun hg1 hg2 => OpX.v (ov_eql64 (b := 0#64) rfl (look_gv rfl (bq2 hg1 hg2)) rfl)) ?_
    refine RO_g rfl rfl rfl rfl rfl yd (fun hg1 hg2 => OpX.v (ov_move rfl (look_gv rfl (bq2 hg1 hg2)))) ?_
    refine RO_g rfl rfl rfl rfl rfl yd (fun hg1 hg2 => OpX.v (ov_move rfl rfl)) ?_
    refine RO_g rfl rfl rfl rfl rfl yd (fun hg1 hg2 => OpX.v (ov_bits (b := 6172840429334713770#64) rfl (look_gv rfl (bq2 hg1 hg2)) rfl (.inr (.inr (.inr ⟨rfl, rfl⟩))))) ?_
    refine RO_g rfl rfl rfl rfl rfl yd (fun hg1 hg2 => OpX.v (ov_eql64 (b := 0#64) rfl (look_gv rfl (bq2 hg1 hg2)) rfl)) ?_
    refine RO_g rfl rfl rfl rfl rfl yd (fun hg1 hg2 => OpX.v (ov_or rfl (look_gv rfl (bq2 hg1 hg2)) rfl rfl (fun h => bq2 (bq2 hg1 hg2) h))) ?_
    refine yG (fun hg => OpX.v (ov_and rfl (look_gv rfl (bq hg)) rfl rfl (fun h => bq2 (bq hg) h))) ?_
    refine yR (ov_or rfl rfl rfl rfl (fun h => bq h)) ?_
    refine yA_ ?_
    refine RO_nil ?_
    refine W_ret ?_
    refine ⟨trivial, yb, (ResV_tmp1 rfl rfl ?_)⟩
    exact xbmy
  ·
   refine W_cut [(1, ptrv b1 posT []), (3, u64v (allB p)), (46, .bool (decide (vr p = 3) || decide (vr p = 5)))] (.box b1 31 posT p :: M) ?_ ?_
   ·
    refine W_seq (W_reg ?_)
    refine yR (ov_eql rfl rfl rfl) ?_
    refine yA_ ?_
    refine RO_nil ?_
    refine W_cond rfl (fun hc4 => ?_) (fun hc4 => ?_)
    ·
     refine W_skip ?_
     exact ⟨⟨rfl, rfl, congrArg some (val_bool (by first | exact or_t1 hc4 | exact or_f1 hc4)), trivial⟩, yb⟩
    ·
     refine W_reg ?_
     refine yR (ov_eql rfl rfl rfl) ?_
     refine yA_ ?_
     refine RO_nil ?_
     exact ⟨⟨rfl, rfl, congrArg some (val_bool (by first | exact or_t1 hc4 | exact or_f1 hc4)), trivial⟩, yb⟩
   ·
    refine W_cond rfl (fun hc5 => ?_) (fun hc5 => ?_)
    ·
     refine W_seq ?_
     refine W_regd mixed yk ?_
     refine yR (ov_load rfl rfl ye trivial rfl rfl tok31) ?_
     refine yP (yV rfl rfl rfl Tryz.call117 xauy) ?_
     refine yR (ov_load rfl rfl ye trivial rfl rfl tok31) ?_
     refine yP (yV rfl rfl rfl Tryz.call117 xauy) ?_
     refine yA_ ?_
     refine yA_ ?_
     refine RO_nil ?_
     refine W_seq (W_reg ?_)
     refine yM ?_
     refine yM ?_
     refine yM ?_
     refine yR (ov_bits rfl rfl rfl (.inr (.inl ⟨rfl, rfl⟩))) ?_
     refine yR (ov_eql64 rfl rfl rfl) ?_
     refine yM ?_
     refine yG (fun hg => OpX.v (ov_move rfl rfl)) ?_
     refine yG (fun hg => yV rfl rfl (looks_cons (look_gv rfl (bq hg)) looks_nil) Tryz.call206 (by apply c_math_bits_OnesCount64 <;> exact yz)) ?_
     refine yG (fun hg => OpX.v (ov_eql rfl (look_gv rfl (bq hg)) rfl)) ?_
     refine yR (ov_and rfl rfl rfl rfl (fun h => bq h)) ?_
     refine yM ?_
     refine yG (fun hg => OpX.v (ov_move rfl rfl)) ?_
     refine yG (fun hg => yV rfl rfl (looks_cons (look_gv rfl (bq hg)) looks_nil) Tryz.call206 (by apply c_math_bits_OnesCount64 <;> exact yz)) ?_
     refine yG (fun hg => OpX.v (ov_eql rfl (look_gv rfl (bq hg)) rfl)) ?_
     refine yR (ov_and rfl rfl rfl rfl (fun h => bq h)) ?_
     refine yA_ ?_
     refine RO_nil ?_
     refine W_ret ?_
     refine ⟨trivial, yb, (ResV_tmp1 rfl rfl ?_)⟩
     exact xbmy
    ·
     refine W_skip ?_
     refine W_seq (W_reg ?_)
     refine yA_ ?_
     refine RO_nil ?_
     refine W_ret ?_
     refine ⟨trivial, yb, (ResV_tmp1 rfl rfl ?_)⟩
     exact xbmy

theorem c_outcome_little (p : Pos) (hp : POK p) (M : List Fact) : Pure Tryz.prog 127 [enc posT p] M (enc resT (littleP p)) := by
 have hb := hp.board
 have hpw := hp.wf
 have hvr := hp.vr
 have htu := hp.tu
 have hpg := hp.pg
 have hvr0 := hp.vr
 have htu0 := hp.tu
 simp only [vr] at hvr0
 simp only [tu] at htu0
 refine pure_of_W (n := 7) Tryz.func127 rfl rfl yn ?_
 refine W_seq (W_regl fun w0 => ?_)
 refine LO_l rfl (by decide : 1 < 7) (ol_box (t := posT) rfl rfl rfl yf (fun b1 => ?_))
 refine LO_l rfl (by decide : 2 < 7) (ol_alloc (t := resT) rfl tok58 yf (fun b2 => ?_))
 refine LO_nil ?_
 refine W_seq ?_
 refine W_seq (W_reg ?_)
 refine yR (ov_load rfl rfl ye trivial rfl rfl tok31) ?_
 refine yP (yV rfl rfl rfl Tryz.call176 (by apply c_outcome_Material <;> exact yz)) ?_
 refine RO_nil ?_
 refine W_cond rfl (fun hc1 => ?_) (fun hc1 => ?_)
 ·
  refine W_seq (W_regl fun w0 => ?_)
  refine yQ (yV rfl rfl rfl Tryz.call175 (by apply c_outcome_draw <;> exact yz)) ?_
  refine LO_l rfl trivial (ol_sw0 rfl rfl rfl rfl yf tok58 ?_)
  refine LO_nil ?_
  refine W_ret ?_
  refine ⟨trivial, yb, (ResV_cell rfl rfl ye rfl tok58 ?_)⟩
  first | exact val_enc (show littleP p = _ from if_pos hc1).symm | exact val_enc (show littleP p = _ from if_neg (Bool.eq_false_iff.1 hc1)).symm
 ·
  refine W_skip ?_
  refine W_seq (W_regl fun w0 => ?_)
  refine yL (ov_build (fs := fs57) (ds := []) rfl rfl bl58 trivial rfl) ?_
  refine LO_l rfl trivial (ol_sw0 rfl rfl rfl rfl yf tok58 ?_)
  refine LO_nil ?_
  refine W_ret ?_
  refine ⟨trivial, yb, (ResV_cell rfl rfl ye rfl tok58 ?_)⟩
  first | exact val_enc (show littleP p = _ from if_pos hc1).symm | exact val_enc (show littleP p = _ from if_neg (Bool.eq_false_iff.1 hc1)).symm

theorem c_outcome_late (p : Pos) (hp : POK p) (M : List Fact) : Pure Tryz.prog 128 [enc posT p] M (enc resT (lateP p)) := by
 have hb := hp.board
 have hpw := hp.wf
 have hvr := hp.vr
 have htu := hp.tu
 have hpg := hp.pg
 have hvr0 := hp.vr
 have htu0 := hp.tu
 simp only [vr] at hvr0
 simp only [tu] at htu0
 refine pure_of_W (n := 8) Tryz.func128 rfl rfl yn ?_
 refine W_seq (W_regl fun w0 => ?_)
 refine LO_l rfl (by decide : 1 < 8) (ol_box (t := posT) rfl rfl rfl yf (fun b1 => ?_))
 refine LO_l rfl (by decide : 2 < 8) (ol_alloc (t := resT) rfl tok58 yf (fun b2 => ?_))
 refine LO_nil ?_
 refine W_seq ?_
 refine W_seq (W_reg ?_)
 refine yR (ov_fieldAddr rfl rfl fa31_8 rfl) ?_
 refine yR (ov_load rfl rfl ye ⟨trivial, yn⟩ rfl rfl tok3) ?_
 refine yR (ov_geq rfl rfl rfl) ?_
 refine RO_nil ?_
 refine W_cond rfl (fun hc1 => ?_) (fun hc1 => ?_)
 ·
  refine W_seq (W_regl fun w0 => ?_)
  refine yQ (yV rfl rfl rfl Tryz.call175 (by apply c_outcome_draw <;> exact yz)) ?_
  refine LO_l rfl trivial (ol_sw0 rfl rfl rfl rfl yf tok58 ?_)
  refine LO_nil ?_
  refine W_ret ?_
  refine ⟨trivial, yb, (ResV_cell rfl rfl ye rfl tok58 ?_)⟩
  first | exact val_enc (show lateP p = _ from if_pos hc1).symm | exact val_enc (show lateP p = _ from if_neg (Bool.eq_false_iff.1 hc1)).symm
 ·
  refine W_skip ?_
  refine W_seq (W_regl fun w0 => ?_)
  refine yL (ov_build (fs := fs57) (ds := []) rfl rfl bl58 trivial rfl) ?_
  refine LO_l rfl trivial (ol_sw0 rfl rfl rfl rfl yf tok58 ?_)
  refine LO_nil ?_
  refine W_ret ?_
  refine ⟨trivial, yb, (ResV_cell rfl rfl ye rfl tok58 ?_)⟩
  first | exact val_enc (show lateP p = _ from if_pos hc1).symm | exact val_enc (show lateP p = _ from if_neg (Bool.eq_false_iff.1 hc1)).symm

theorem c_outcome_questions (M : List Fact) : Pure Tryz.prog 57 [] M (enc (.ar 4 (.st [.fn])) askT) := by
 have hww := askT_wf
 refine pure_of_W (n := 6) Tryz.func57 rfl rfl yn ?_
 refine W_seq (W_regl fun w0 => ?_)
 refine LO_l rfl (by decide : 0 < 6) (ol_alloc (t := (.ar 4 (.st [.fn]))) rfl tok78 yf (fun b1 => ?_))
 refine LO_nil ?_
 refine W_seq (W_regl fun w0 => ?_)
 refine yL (ov_build (fs := fs76) (ds := [⟨0, (some (34, [], []) : FnV)⟩]) rfl rfl bl77 ⟨yn, yf, trivial⟩ rfl) ?_
 refine yL (ov_build (fs := fs76) (ds := [⟨0, (some (126, [], []) : FnV)⟩]) rfl rfl bl77 ⟨yn, yf, trivial⟩ rfl) ?_
 refine yL (ov_build (fs := fs76) (ds := [⟨0, (some (127, [], []) : FnV)⟩]) rfl rfl bl77 ⟨yn, yf, trivial⟩ rfl) ?_
 refine yL (ov_build (fs := fs76) (ds := [⟨0, (some (128, [], []) : FnV)⟩]) rfl rfl bl77 ⟨yn, yf, trivial⟩ rfl) ?_
 refine yL (ov_buildA (t := (.st [.fn])) (ds := [(0, _), (1, _), (2, _), (3, _)]) rfl rfl bl78 ⟨yn, yf, ⟨yn, yf, ⟨yn, yf, ⟨yn, yf, trivial⟩⟩⟩⟩ rfl) ?_
 refine LO_l rfl trivial (ol_sw0 rfl rfl rfl rfl yf tok78 ?_)
 refine LO_nil ?_
 refine W_ret ?_
 refine ⟨trivial, yb, (ResV_cell rfl rfl ye rfl tok78 ?_)⟩
 rfl

theorem ask_ok {p : Pos} (hp : POK p) (ht : tu p ≤ 1) (i : Nat) (hi : i < 4) : ∃ f, (askT.getD ((i : Nat) : Int).toNat (zero (.st [.fn]))).1 = some (f, [], []) ∧ (∀ av w, (callFunc f av).run Tryz.prog w = .ok (.enter f av) w) ∧ ∀ M, TAB ∈ M → Pure Tryz.prog f [enc posT p] M (enc resT (askR p i)) := by
  match i, hi with
  | 0, _ => exact ⟨_, rfl, Tryz.call34, fun M hT => c_legal_Won p hp M hT⟩
  | 1, _ => exact ⟨_, rfl, Tryz.call126, fun M hT => c_outcome_stuck p hp M hT ht⟩
  | 2, _ => exact ⟨_, rfl, Tryz.call127, fun M hT => c_outcome_little p hp M⟩
  | 3, _ => exact ⟨_, rfl, Tryz.call128, fun M hT => c_outcome_late p hp M⟩

theorem c_outcome_Of (p : Pos) (hp : POK p) (M : List Fact) (hT : TAB ∈ M) : Pure Tryz.prog 21 [enc posT p] M (enc resT (outP p)) := by
 have hb := hp.board
 have hpw := hp.wf
 have hvr := hp.vr
 have htu := hp.tu
 have hpg := hp.pg
 have hvr0 := hp.vr
 have htu0 := hp.tu
 simp only [vr] at hvr0
 simp only [tu] at htu0
 have hww := askT_wf
 refine pure_of_W (n := 29) Tryz.func21 rfl rfl yn ?_
 refine W_seq (W_regl fun w0 => ?_)
 refine LO_l rfl (by decide : 1 < 29) (ol_box (t := posT) rfl rfl rfl yf (fun b1 => ?_))
 refine LO_l rfl (by decide : 2 < 29) (ol_alloc (t := resT) rfl tok58 yf (fun b2 => ?_))
 refine LO_nil ?_
 refine W_seq ?_
 refine W_seq (W_reg ?_)
 refine yR (ov_fieldAddr rfl rfl fa31_0 rfl) ?_
 refine yR (ov_load rfl rfl ye ⟨trivial, yn⟩ rfl rfl tok5) ?_
 refine yR (ov_geq rfl rfl rfl) ?_
 refine yM ?_
 refine yG (fun hg => OpX.v (ov_fieldAddr rfl rfl fa31_4 rfl)) ?_
 refine yG (fun hg => OpX.v (ov_load rfl (look_gv rfl (bq hg)) ye ⟨trivial, yn⟩ rfl rfl tok5)) ?_
 refine yG (fun hg => OpX.v (ov_gtr rfl (look_gv rfl (bq hg)) rfl)) ?_
 refine yR (ov_or rfl rfl rfl rfl (fun h => bq h)) ?_
 refine RO_nil ?_
 refine W_cond rfl (fun hc1 => ?_) (fun hc1 => ?_)
 ·
  refine W_seq (W_regl fun w0 => ?_)
  refine yL (ov_build (fs := fs57) (ds := []) rfl rfl bl58 trivial rfl) ?_
  refine LO_l rfl trivial (ol_sw0 rfl rfl rfl rfl yf tok58 ?_)
  refine LO_nil ?_
  refine W_ret ?_
  refine ⟨trivial, yb, (ResV_cell rfl rfl ye rfl tok58 ?_)⟩
  first | exact val_enc (out_a hc1).symm | exact val_enc (out_b hc1 hH yo hc3).symm | exact val_enc (out_c hc1 hH yo).symm
 ·
  have ht : tu p ≤ 1 := Int.not_lt.1 (of_decide_eq_false (Bool.or_eq_false_iff.1 hc1).2)
  refine W_skip ?_
  refine W_seq ?_
  refine W_seq (W_reg ?_)
  refine yP (yV rfl rfl rfl Tryz.call57 (by apply c_outcome_questions <;> exact yz)) ?_
  refine yM ?_
  refine RO_nil ?_
  refine W_block ?_
  refine W_loop (σ := Nat) (fun s5 => s5 ≤ 4 ∧ ∀ j, j < s5 → (askR p j).1 = 0) (fun s5 => [(1, ptrv b1 posT []), (2, ptrv b2 resT []), (15, enc (.ar 4 (.st [.fn])) askT), (16, .int .i64 (s5 : Int))]) (fun s5 => .box b2 58 resT (zero resT) :: .box b1 31 posT _ :: M) (fun s5 => 4 - s5) (0) ⟨by omega, fun j hj => absurd hj yo⟩ ⟨rfl, rfl, rfl, rfl, trivial⟩ yb ?_
  rintro i ⟨hI, hH⟩
  refine W_seq (W_reg ?_)
  refine yR (ov_lss rfl rfl rfl) ?_
  refine RO_nil ?_
  refine W_seq ?_
  refine W_cond rfl (fun hc2 => ?_) (fun hc2 => ?_)
  ·
   try simp only [yS] at hc2
   obtain ⟨f, hfn, hcf, hpf⟩ := ask_ok hp ht i yo
   have hwq : wf (.st [.fn]) (askT.getD ((i : Nat) : Int).toNat (zero (.st [.fn]))) := ⟨trivial, trivial⟩
   refine W_skip ?_
   refine W_seq ?_
   refine W_block ?_
   refine W_seq (W_regl fun w0 => ?_)
   refine yL (ov_index (t := (.ar 4 (.st [.fn]))) rfl rfl yf rfl rfl Tryz.underlying78 ya ya (tn ya ya) rfl rfl rfl tok77) ?_
   refine LO_l rfl (by decide : 4 < 29) (ol_alloc (t := (.st [.fn])) rfl tok77 yf (fun b3 => ?_))
   refine LO_l rfl trivial (ol_sw0 rfl rfl rfl rfl yf tok77 ?_)
   refine LO_nil ?_
   refine W_seq (W_regl fun w0 => ?_)
   refine yL (ov_fieldAddr rfl rfl fa77_0 rfl) ?_
   refine yL (ov_load (v := .func (.func f) #[] #[]) rfl rfl ye ⟨trivial, yn⟩ rfl (congrArg (fun q => some (encFn q)) hfn) tok59) ?_
   refine yL (ov_load rfl rfl ye trivial rfl rfl tok31) ?_
   refine yQ (ov_call  rfl rfl rfl hcf (hpf _ ye)) ?_
   refine LO_l rfl (by decide : 5 < 29) (ol_alloc (t := resT) rfl tok58 yf (fun b4 => ?_))
   refine LO_l rfl trivial (ol_sw0 rfl rfl rfl rfl yf tok58 ?_)
   refine LO_nil ?_
   refine W_seq (W_reg ?_)
   refine yR (ov_fieldAddr rfl rfl fa58_0 rfl) ?_
   refine yR (ov_load rfl rfl ye ⟨trivial, yn⟩ rfl rfl tok5) ?_
   refine yR (ov_neq rfl rfl rfl) ?_
   refine RO_nil ?_
   refine W_cond rfl (fun hc3 => ?_) (fun hc3 => ?_)
   ·
    refine W_seq (W_regl fun w0 => ?_)
    refine yL (ov_load rfl rfl ye trivial rfl rfl tok58) ?_
    refine LO_l rfl trivial (ol_sw2 rfl rfl rfl rfl yf tok58 ?_)
    refine LO_nil ?_
    refine W_ret ?_
    refine ⟨trivial, yb, (ResV_cell rfl rfl ye rfl tok58 ?_)⟩
    first | exact val_enc (out_a hc1).symm | exact val_enc (out_b hc1 hH yo hc3).symm | exact val_enc (out_c hc1 hH yo).symm
   ·
    refine W_skip ?_
    refine W_reg ?_
    refine yR (ov_add rfl rfl rfl ya) ?_
    refine yM ?_
    refine RO_nil ?_
    exact ⟨i + 1, yo, ⟨by omega, ask_step hH hc3⟩, ⟨rfl, rfl, rfl, rfl, trivial⟩, yb⟩
  ·
   try simp only [yS] at hc2
   refine W_exit ?_
   refine W_seq (W_regl fun w0 => ?_)
   refine yL (ov_build (fs := fs57) (ds := []) rfl rfl bl58 trivial rfl) ?_
   refine LO_l rfl trivial (ol_sw0 rfl rfl rfl rfl yf tok58 ?_)
   refine LO_nil ?_
   refine W_ret ?_
   refine ⟨trivial, yb, (ResV_cell rfl rfl ye rfl tok58 ?_)⟩
   first | exact val_enc (out_a hc1).symm | exact val_enc (out_b hc1 hH yo hc3).symm | exact val_enc (out_c hc1 hH yo).symm

theorem c_outcome_Ended (p : Pos) (hp : POK p) (M : List Fact) (hT : TAB ∈ M) : Pure Tryz.prog 33 [enc posT p] M (.bool (endedP p)) := by
 have hb := hp.board
 have hpw := hp.wf
 have hvr := hp.vr
 have htu := hp.tu
 have hpg := hp.pg
 have hvr0 := hp.vr
 have htu0 := hp.tu
 simp only [vr] at hvr0
 simp only [tu] at htu0
 refine pure_of_W (n := 7) Tryz.func33 rfl rfl yn ?_
 refine W_seq (W_regl fun w0 => ?_)
 refine LO_l rfl (by decide : 1 < 7) (ol_box (t := posT) rfl rfl rfl yf (fun b1 => ?_))
 refine zA ?_
 refine LO_nil ?_
 refine W_seq (W_reg ?_)
 refine yR (ov_load rfl rfl ye trivial rfl rfl tok31) ?_
 refine yP (yV rfl rfl rfl Tryz.call21 (by apply c_outcome_Of <;> exact yz)) ?_
 refine yR (ov_field (t := resT) rfl rfl yf rfl Tryz.underlying58 rfl yn rfl rfl rfl tok5) ?_
 refine yR (ov_neq rfl rfl rfl) ?_
 refine yA_ ?_
 refine RO_nil ?_
 refine W_ret ?_
 refine ⟨trivial, yb, (ResV_tmp1 rfl rfl ?_)⟩
 rfl
end Go.Kw
set_option linter.unusedVariables false
set_option linter.unusedSimpArgs false
namespace Go.Kw
open Go.Proofs
theorem tok34 : TyOK Tryz.prog 34 i64 := ⟨Tryz.isAgg34, Tryz.sizeOf34, Tryz.zeroValue34⟩
theorem tok37 : TyOK Tryz.prog 37 (.ar 4 i64) := ⟨Tryz.isAgg37, Tryz.sizeOf37, Tryz.zeroValue37⟩
theorem tok89 : TyOK Tryz.prog 89 walkT := ⟨Tryz.isAgg89, Tryz.sizeOf89, Tryz.zeroValue89⟩
set_option maxRecDepth 20000 in
theorem bl37 : BuildOKa Tryz.prog 37 4 i64 := ⟨_, _, _, rfl, rfl, Tryz.underlying37, rfl, rfl⟩
theorem fa89_0 : FA Tryz.prog 89 0 0 := fun a w => by simp [Instr.fieldAt, Tryz.runUnderlying89, Instr.sureAddr, fieldPlace, Tryz.sizeOf87]

def waysP : Nat → Pos → List Pos
  | 0, p => [p]
  | k + 1, p => if endedP p = true then [] else (legalL p).flatMap fun m => waysP k (moveP p m).1
def waysTo (p : Pos) (k j : Nat) : List Pos := ((show List Mv from legalL p).take j).flatMap fun m => waysP k (moveP p m).1
def gAt (g : List (El i64)) (i : Nat) : Int := (show List Int from g).getD i 0
def bump (g : List (El i64)) (a : Nat) : List (El i64) := (show List Int from g).set a (gAt g a + 1)
def WalkOK (E : List Pos → List Fact) (M0 : List Fact) (fv : Value) (k : Nat) : Prop := ∀ (p : Pos), POK p → ∀ (a d : Nat) (g : List (El i64)) (qs : List Pos) (bw : Nat), g.length = 65 → a + k = d → d ≤ 64 → (∀ i, i ≤ k → 0 ≤ gAt g (a + i) ∧ gAt g (a + i) + ((waysP i p).length : Int) ≤ 1000000) → qs.length + (waysP k p).length ≤ 1000000 →
  Con Tryz.prog 68 [ptrv bw walkT [], enc posT p, .int .i64 (a : Int), .int .i64 (d : Int), fv] (.box bw 89 walkT (g, ()) :: (E qs ++ M0)) (fun _ M' => ∃ g' : List (El i64), M' = .box bw 89 walkT (g', ()) :: (E (qs ++ waysP k p) ++ M0) ∧ g'.length = 65 ∧ ∀ i, gAt g' i = gAt g i + (if a ≤ i ∧ i ≤ d then ((waysP (i - a) p).length : Int) else 0))
theorem bump_spec (g : List (El i64)) (a : Nat) (hg : g.length = 65) (ha : a < 65) : (bump g a).length = 65 ∧ gAt (bump g a) a = gAt g a + 1 ∧ ∀ i, i ≠ a → gAt (bump g a) i = gAt g i := by
  have key : ∀ (l : List Int) (x : Int), l.length = 65 → (l.set a x).length = 65 ∧ (l.set a x).getD a 0 = x ∧ ∀ i, i ≠ a → (l.set a x).getD i 0 = l.getD i 0 := fun l x hl => by
    refine ⟨by rw [List.length_set]; exact hl, ?_, fun i hi => ?_⟩
    · rw [List.getD_eq_getElem?_getD, List.getElem?_set_self yo]; rfl
    · rw [List.getD_eq_getElem?_getD, List.getElem?_set_ne yo, ← List.getD_eq_getElem?_getD]
  exact key g (gAt g a + 1) hg
theorem legalL_mem {p : Pos} {m : Mv} (h : m ∈ legalL p) : m ∈ allL p := by
  unfold legalL at h; split at h
  · cases h
  · exact wouldP_mem h
theorem legalL_len (p : Pos) : (legalL p).length ≤ 1000000 := by
  unfold legalL; split
  · exact Nat.zero_le _
  · exact wouldP_len p
theorem legalL_at (p : Pos) {j : Nat} (h : j < (legalL p).length) : (legalL p).getD ((j : Nat) : Int).toNat (zero moveT) ∈ (show List Mv from legalL p) := getD_mem (legalL p) h
theorem move_ok {p : Pos} {m : Mv} (h : m ∈ allL p) : moveP p m = (madeP p m, true) := by
  unfold moveP; rw [if_neg (by rw [has_iff.2 h]; simp)]
theorem legal_ok {p : Pos} (hp : POK p) {m : Mv} (h : m ∈ (show List Mv from legalL p)) : POK (moveP p m).1 := by
  rw [move_ok (legalL_mem h)]; exact POK_made hp (legalL_mem h)
theorem waysTo_next (p : Pos) (k : Nat) {j : Nat} (h : j < (legalL p).length) : waysTo p k (j + 1) = waysTo p k j ++ waysP k (moveP p ((legalL p).getD ((j : Nat) : Int).toNat (zero moveT))).1 := by
  have key : ∀ (l : List Mv) (f : Mv → List Pos), j < l.length → (l.take (j + 1)).flatMap f = (l.take j).flatMap f ++ f (l.getD j (zero moveT)) := fun l f hl => by
    rw [List.take_add_one, List.getElem?_eq_getElem hl, List.flatMap_append, List.getD_eq_getElem?_getD, List.getElem?_eq_getElem hl]; simp
  exact key (legalL p) _ h
theorem waysP_e {p : Pos} {k : Nat} (h : endedP p = true) : waysP (k + 1) p = [] := by rw [waysP, if_pos h]
theorem waysP_n {p : Pos} {k : Nat} (h : endedP p = false) : waysP (k + 1) p = (legalL p).flatMap fun m => waysP k (moveP p m).1 := by rw [waysP, if_neg xawy]
theorem waysTo_all (p : Pos) (k : Nat) {j : Nat} (h : (legalL p).length ≤ j) : waysTo p k j = (legalL p).flatMap fun m => waysP k (moveP p m).1 := by
  unfold waysTo
  have e : (show List Mv from legalL p).take j = legalL p := List.take_of_length_le h
  rw [e]
theorem flat_take_le {α β : Type} (f : α → List β) : ∀ (l : List α) (j : Nat), ((l.take j).flatMap f).length ≤ (l.flatMap f).length
  | [], j => by simp
  | x :: l, 0 => by simp
  | x :: l, j + 1 => by
    have := flat_take_le f l j
    simp only [List.take_succ_cons, List.flatMap_cons, List.length_append]; omega
theorem waysTo_le (p : Pos) (k j : Nat) (h : endedP p = false) : (waysTo p k j).length ≤ (waysP (k + 1) p).length := by
  rw [waysP_n h]; exact flat_take_le _ _ _
theorem walk_I0 {g : List (El i64)} {a d : Nat} {p : Pos} (h1 : gAt (bump g a) a = gAt g a + 1) (h2 : ∀ i, i ≠ a → gAt (bump g a) i = gAt g i) : ∀ i, gAt (bump g a) i = gAt g i + (if i = a then 1 else if a < i ∧ i ≤ d then ((waysTo p (i - a - 1) 0).length : Int) else 0) := by
  intro i
  by_cases h : i = a
  · subst h; rw [if_pos rfl]; exact h1
  · rw [if_neg h, h2 i h]
    have : (waysTo p (i - a - 1) 0).length = 0 := by simp [waysTo]
    rw [this]; simp
theorem walk_I1 {g gj g2 : List (El i64)} {a d k1 j : Nat} {p : Pos} {q : Pos} (h1 : ∀ i, gAt gj i = gAt g i + (if i = a then 1 else if a < i ∧ i ≤ d then ((waysTo p (i - a - 1) j).length : Int) else 0))
    (h2 : ∀ i, gAt g2 i = gAt gj i + (if a + 1 ≤ i ∧ i ≤ d then ((waysP (i - (a + 1)) q).length : Int) else 0)) (h3 : ∀ i, waysTo p i (j + 1) = waysTo p i j ++ waysP i q) (h4 : a + (k1 + 1) = d) :
    ∀ i, gAt g2 i = gAt g i + (if i = a then 1 else if a < i ∧ i ≤ d then ((waysTo p (i - a - 1) (j + 1)).length : Int) else 0) := by
  intro i
  rw [h2 i, h1 i, h3 (i - a - 1), show i - (a + 1) = i - a - 1 by omega, List.length_append]
  by_cases e : i = a
  · rw [if_pos e, if_pos e, if_neg yo]; omega
  · rw [if_neg e, if_neg e]
    by_cases e2 : a < i ∧ i ≤ d
    · rw [if_pos e2, if_pos e2, if_pos yo]; omega
    · rw [if_neg e2, if_neg e2, if_neg yo]; omega
theorem walk_bnd {g gj : List (El i64)} {a d k1 j : Nat} {p q : Pos} (hb : ∀ i, i ≤ k1 + 1 → 0 ≤ gAt g (a + i) ∧ gAt g (a + i) + ((waysP i p).length : Int) ≤ 1000000) (h1 : ∀ i, gAt gj i = gAt g i + (if i = a then 1 else if a < i ∧ i ≤ d then ((waysTo p (i - a - 1) j).length : Int) else 0))
    (h3 : ∀ i, waysTo p i (j + 1) = waysTo p i j ++ waysP i q) (h5 : ∀ i, (waysTo p i (j + 1)).length ≤ (waysP (i + 1) p).length) (hk : a + (k1 + 1) = d) : ∀ i, i ≤ k1 → 0 ≤ gAt gj (a + 1 + i) ∧ gAt gj (a + 1 + i) + ((waysP i q).length : Int) ≤ 1000000 := by
  intro i hi
  have e1 := h1 (a + 1 + i)
  rw [if_neg yo, if_pos yo, show a + 1 + i - a - 1 = i by omega] at e1
  have e2 := hb (i + 1) yo
  rw [show a + (i + 1) = a + 1 + i by omega] at e2
  have e3 := h5 i
  rw [h3 i, List.length_append] at e3
  omega
theorem walk_q {qs : List Pos} {k1 j : Nat} {p q : Pos} (hq : qs.length + (waysP (k1 + 1) p).length ≤ 1000000) (h3 : ∀ i, waysTo p i (j + 1) = waysTo p i j ++ waysP i q) (h5 : ∀ i, (waysTo p i (j + 1)).length ≤ (waysP (i + 1) p).length) : (qs ++ waysTo p k1 j).length + (waysP k1 q).length ≤ 1000000 := by
  have e3 := h5 k1
  rw [h3 k1, List.length_append] at e3
  rw [List.length_append]; omega
theorem walk_A {g : List (El i64)} {a d : Nat} {p : Pos} (hk : a + 0 = d) (h1 : gAt (bump g a) a = gAt g a + 1) (h2 : ∀ i, i ≠ a → gAt (bump g a) i = gAt g i) : ∀ i, gAt (bump g a) i = gAt g i + (if a ≤ i ∧ i ≤ d then ((waysP (i - a) p).length : Int) else 0) := by
  intro i
  by_cases h : i = a
  · subst h; rw [if_pos yo, show i - i = 0 by omega]; exact h1
  · rw [if_neg yo, h2 i h]; omega
theorem walk_B {g : List (El i64)} {a d k1 : Nat} {p : Pos} (he : endedP p = true) (hk : a + (k1 + 1) = d) (h1 : gAt (bump g a) a = gAt g a + 1) (h2 : ∀ i, i ≠ a → gAt (bump g a) i = gAt g i) : ∀ i, gAt (bump g a) i = gAt g i + (if a ≤ i ∧ i ≤ d then ((waysP (i - a) p).length : Int) else 0) := by
  intro i
  by_cases h : i = a
  · subst h; rw [if_pos yo, show i - i = 0 by omega]; exact h1
  · rw [h2 i h]
    by_cases e : a ≤ i ∧ i ≤ d
    · rw [if_pos e, show i - a = (i - a - 1) + 1 by omega, waysP_e he]; simp
    · rw [if_neg e]; omega
theorem walk_C {g gj : List (El i64)} {a d k1 j : Nat} {p : Pos} (he : endedP p = false) (hk : a + (k1 + 1) = d) (h1 : ∀ i, gAt gj i = gAt g i + (if i = a then 1 else if a < i ∧ i ≤ d then ((waysTo p (i - a - 1) j).length : Int) else 0)) (hj : (legalL p).length ≤ j) : ∀ i, gAt gj i = gAt g i + (if a ≤ i ∧ i ≤ d then ((waysP (i - a) p).length : Int) else 0) := by
  intro i
  rw [h1 i]
  by_cases h : i = a
  · subst h; rw [if_pos rfl, if_pos yo, show i - i = 0 by omega]; rfl
  · rw [if_neg h]
    by_cases e : a < i ∧ i ≤ d
    · rw [if_pos e, if_pos yo, show i - a = (i - a - 1) + 1 by omega, waysP_n he, ← waysTo_all p (i - a - 1) hj]
      rw [show i - a - 1 + 1 - 1 = i - a - 1 by omega]
    · rw [if_neg e, if_neg yo]
def countP (p : Pos) (d : Int) : Int × Int := if (decide (d < 0) || decide (64 < d)) = true then (0, 2) else (((waysP d.toNat p).length : Int), 0)
theorem count_no {p : Pos} {d : Int} (h : (decide (d < 0) || decide (64 < d)) = true) : Value.tuple #[.int .i64 0, .int .i64 2] = .tuple #[.int .i64 (countP p d).1, .int .i64 (countP p d).2] := by unfold countP; rw [if_pos h]
theorem count_yes {p : Pos} {d : Nat} (h : (decide ((d : Int) < 0) || decide (64 < (d : Int))) = false) : Value.tuple #[.int .i64 ((waysP d p).length : Int), .int .i64 0] = .tuple #[.int .i64 (countP p (d : Int)).1, .int .i64 (countP p (d : Int)).2] := by unfold countP; rw [if_neg xawy]; rfl
theorem deep_nat {d : Int} (h : (decide (d < 0) || decide (64 < d)) = false) : ∃ n : Nat, d = (n : Int) ∧ n ≤ 64 := by
  simp only [Bool.or_eq_false_iff, decide_eq_false_iff_not] at h
  exact ⟨d.toNat, by omega, by omega⟩
theorem perm_last (a b c : Fact) (M : List Fact) : List.Perm (b :: c :: a :: M) (a :: b :: c :: M) := by
  refine (List.Perm.trans ?_ (List.Perm.swap a b _))
  exact (List.Perm.swap a c M).cons b
def talF (l : List (El i64)) (q : Pos) : List (El i64) := (show List Int from l).set (outP q).1.toNat (gAt l (outP q).1.toNat + 1)
def tallyP (qs : List Pos) : List (El i64) := qs.foldl talF (zero (.ar 4 i64))
theorem tally_snoc (qs : List Pos) (q : Pos) : tallyP (qs ++ [q]) = talF (tallyP qs) q := by
  unfold tallyP; rw [List.foldl_append]; rfl
theorem tal_len {l : List (El i64)} (q : Pos) (h : l.length = 4) : (talF l q).length = 4 := by
  unfold talF; rw [List.length_set]; exact h
theorem tally_len : ∀ qs : List Pos, (tallyP qs).length = 4 := fun qs => by
  have key : ∀ (qs : List Pos) (l : List (El i64)), l.length = 4 → (qs.foldl talF l).length = 4 := by
    intro qs
    induction qs with
    | nil => exact fun l h => h
    | cons q qs ih => exact fun l h => ih _ (tal_len q h)
  exact key qs _ rfl
theorem tal_at (l : List (El i64)) (q : Pos) (i : Nat) : gAt (talF l q) i = gAt l i ∨ gAt (talF l q) i = gAt l i + 1 := by
  have key : ∀ (l : List Int) (k : Nat), (l.set k (l.getD k 0 + 1)).getD i 0 = l.getD i 0 ∨ (l.set k (l.getD k 0 + 1)).getD i 0 = l.getD i 0 + 1 := fun l k => by
    by_cases h : k = i
    · subst h
      by_cases hl : k < l.length
      · right; rw [List.getD_eq_getElem?_getD, List.getElem?_set_self hl]; rfl
      · left; rw [List.set_eq_of_length_le yo]
    · left; rw [List.getD_eq_getElem?_getD, List.getElem?_set_ne h, ← List.getD_eq_getElem?_getD]
  exact key l (outP q).1.toNat
theorem tally_rng (qs : List Pos) (i : Nat) (h : qs.length ≤ 1000000) : 0 ≤ gAt (tallyP qs) i ∧ gAt (tallyP qs) i ≤ 1000000 := by
  have key : ∀ (qs : List Pos) (l : List (El i64)), gAt l i ≤ gAt (qs.foldl talF l) i ∧ gAt (qs.foldl talF l) i ≤ gAt l i + qs.length := by
    intro qs
    induction qs with
    | nil => exact fun l => ⟨Int.le_refl _, by simp⟩
    | cons q qs ih =>
      intro l
      have h1 := ih (talF l q)
      have h2 := tal_at l q i
      simp only [List.foldl_cons, List.length_cons]
      omega
  have h1 := key qs (zero (.ar 4 i64))
  have h0 : gAt (zero (.ar 4 i64)) i = 0 := by
    show (List.replicate 4 (0 : Int)).getD i 0 = 0
    rw [List.getD_eq_getElem?_getD, List.getElem?_replicate]; split <;> rfl
  rw [h0] at h1
  unfold tallyP; omega
theorem pick_state {a b : Res} (ha : 0 ≤ (show Int from a.1) ∧ (show Int from a.1) ≤ 3) (hb : 0 ≤ (show Int from b.1) ∧ (show Int from b.1) ≤ 3) : 0 ≤ (show Int from (pickR a b).1) ∧ (show Int from (pickR a b).1) ≤ 3 := by
  unfold pickR; split
  · exact ha
  · exact hb
theorem zero_state : 0 ≤ (show Int from (zero resT : Res).1) ∧ (show Int from (zero resT : Res).1) ≤ 3 := ⟨by decide, by decide⟩
theorem wins_state {c : Int} (w : Int) (h0 : 0 ≤ c) (h1 : c ≤ 1) : 0 ≤ (show Int from (winsP c w).1) ∧ (show Int from (winsP c w).1) ≤ 3 := ⟨by show 0 ≤ 1 + c; omega, by show 1 + c ≤ 3; omega⟩
theorem first_state {a b : Int} (w : Int) (f : Int → Bool) (a0 : 0 ≤ a) (a1 : a ≤ 1) (b0 : 0 ≤ b) (b1 : b ≤ 1) : 0 ≤ (show Int from (first2 a b w f).1) ∧ (show Int from (first2 a b w f).1) ≤ 3 := by
  unfold first2; split
  · exact wins_state w a0 a1
  · split
    · exact wins_state w b0 b1
    · exact zero_state
theorem outP_state {p : Pos} (hp : POK p) : 0 ≤ (show Int from (outP p).1) ∧ (show Int from (outP p).1) ≤ 3 := by
  have h0 := hp.tu.1
  unfold outP; split
  · exact zero_state
  · rename_i hn
    have ht : tu p ≤ 1 := by simp only [Bool.or_eq_true, decide_eq_true_eq] at hn; omega
    have draw_s : ∀ w, 0 ≤ (show Int from (drawP w).1) ∧ (show Int from (drawP w).1) ≤ 3 := fun w => ⟨by show (0 : Int) ≤ 3; decide, by show (3 : Int) ≤ 3; decide⟩
    refine pick_state ?_ (pick_state ?_ (pick_state ?_ (pick_state ?_ zero_state)))
    · unfold wonP; split
      · exact zero_state
      · unfold wonBy
        split
        · unfold blownP; split
          · exact wins_state _ yo yo
          · exact zero_state
        · split
          · exact first_state _ _ h0 ht yo yo
          · split
            · exact first_state _ _ yo yo h0 ht
            · split
              · exact first_state _ _ yo yo h0 ht
              · split
                · unfold hordeP; split
                  · exact wins_state _ yd yd
                  · exact zero_state
                · split
                  · unfold goalR
                    split
                    · exact ⟨by show (0 : Int) ≤ 3; decide, by show (3 : Int) ≤ 3; decide⟩
                    · split
                      · exact wins_state _ yd yd
                      · split
                        · exact zero_state
                        · split
                          · exact wins_state _ yd yd
                          · split
                            · exact zero_state
                            · exact wins_state _ yd yd
                  · exact zero_state
    · unfold stuckP
      split
      · exact zero_state
      · split
        · exact ⟨by show 0 ≤ 1 + tu p; omega, by show 1 + tu p ≤ 3; omega⟩
        · split
          · exact ⟨by show 0 ≤ 2 - tu p; omega, by show 2 - tu p ≤ 3; omega⟩
          · exact draw_s 2
    · unfold littleP; split
      · exact draw_s 3
      · exact zero_state
    · unfold lateP; split
      · exact draw_s 4
      · exact zero_state
def endsP (p : Pos) (d : Int) : List (El i64) × Int := if (decide (d < 0) || decide (64 < d)) = true then (zero (.ar 4 i64), 2) else (tallyP (waysP d.toNat p), 0)
theorem ends_no {p : Pos} {d : Int} (h : (decide (d < 0) || decide (64 < d)) = true) : Value.tuple #[enc (.ar 4 i64) (zero (.ar 4 i64)), .int .i64 2] = .tuple #[enc (.ar 4 i64) (endsP p d).1, .int .i64 (endsP p d).2] := by unfold endsP; rw [if_pos h]
theorem ends_yes {p : Pos} {d : Nat} (h : (decide ((d : Int) < 0) || decide (64 < (d : Int))) = false) : Value.tuple #[enc (.ar 4 i64) (tallyP (waysP d p)), .int .i64 0] = .tuple #[enc (.ar 4 i64) (endsP p (d : Int)).1, .int .i64 (endsP p (d : Int)).2] := by unfold endsP; rw [if_neg xawy]; rfl

theorem c_perft_walker_walk (E : List Pos → List Fact) (M0 : List Fact) (cf : FuncId) (cv : List Value) (hcf : ∀ av w, (callFunc cf av).run Tryz.prog w = .ok (.enter cf av) w) (hTE : TAB ∈ M0) (hcb : ∀ (qs : List Pos) (q : Pos), POK q → qs.length < 1000000 → Con Tryz.prog cf (enc posT q :: cv) (E qs ++ M0) (fun _ M' => M' = E (qs ++ [q]) ++ M0)) (k : Nat) (ih : ∀ k1, k1 < k → WalkOK E M0 (.func (.func cf) #[] cv.toArray) k1) (p : Pos) (hp : POK p) (a d : Nat) (g : List (El i64)) (qs : List Pos) (bw : Nat) (hg : g.length = 65) (hk : a + k = d) (hd : d ≤ 64) (hbn : ∀ i, i ≤ k → 0 ≤ gAt g (a + i) ∧ gAt g (a + i) + ((waysP i p).length : Int) ≤ 1000000) (hqs : qs.length + (waysP k p).length ≤ 1000000) : Con Tryz.prog 68 [ptrv bw walkT [], enc posT p, .int .i64 (a : Int), .int .i64 (d : Int), (.func (.func cf) #[] cv.toArray)] (.box bw 89 walkT (g, ()) :: (E qs ++ M0)) (fun _ M' => ∃ g' : List (El i64), M' = .box bw 89 walkT (g', ()) :: (E (qs ++ waysP k p) ++ M0) ∧ g'.length = 65 ∧ ∀ i, gAt g' i = gAt g i + (if a ≤ i ∧ i ≤ d then ((waysP (i - a) p).length : Int) else 0)) := by
 have hb := hp.board
 have hpw := hp.wf
 have hvr := hp.vr
 have htu := hp.tu
 have hpg := hp.pg
 have hvr0 := hp.vr
 have htu0 := hp.tu
 simp only [vr] at hvr0
 simp only [tu] at htu0
 have hTq : TAB ∈ E qs ++ M0 := List.mem_append.2 (.inr hTE)
 have hb0 := hbn 0 (Nat.zero_le _)
 have hgw : wf walkT (g, ()) := ⟨⟨hg, fun _ _ => trivial⟩, trivial⟩
 obtain ⟨hbl, hba, hbo⟩ := bump_spec g a hg yo
 have hga : @LE.le Int _ 0 (g.getD ((a : Nat) : Int).toNat (zero i64)) ∧ @LE.le Int _ (g.getD ((a : Nat) : Int).toNat (zero i64) + 1) 1000000 := hb0
 have hno : ¬ (1000000 : Int) < (bump g a).getD ((a : Nat) : Int).toNat (zero i64) := by have h1 : (bump g a).getD ((a : Nat) : Int).toNat (zero i64) = gAt g a + 1 := hba; rw [h1]; have := hb0.2; simp only [Nat.add_zero, waysP, List.length_singleton] at this; omega
 refine con_of_W (n := 62) Tryz.func68 rfl rfl yn ?_
 refine W_seq (W_regl fun w0 => ?_)
 refine LO_l rfl (by decide : 6 < 62) (ol_box (t := posT) rfl rfl rfl yf (fun b1 => ?_))
 refine LO_nil ?_
 refine W_seq ?_
 refine W_regD (fun i => !Nat.beq i 10) mixed (fun w0 => ?_)
 refine D_mem0 (i := 0) rfl yk yk rfl rfl yd (ov_move rfl rfl) ?_
 refine D_mem0 (i := 1) rfl yk yk rfl rfl yd (ov_move rfl rfl) ?_
 refine D_mem0 (i := 2) rfl yk yk rfl rfl yd (ov_nilptr rfl rfl) ?_
 refine D_mem0 (i := 3) rfl yk yk rfl rfl yd (ov_fieldAddr rfl rfl fa89_0 rfl) ?_
 refine D_mem0 (i := 4) rfl yk yk rfl rfl yd (ov_indexAddr rfl rfl rfl Tryz.underlying87 rfl Tryz.sizeOf3 ya ya) ?_
 refine D_mem0 (i := 5) rfl yk yk rfl rfl yd (ov_load rfl rfl ye ⟨⟨trivial, yn⟩, (tn ya ya)⟩ rfl rfl tok3) ?_
 refine D_mem0 (i := 6) rfl yk yk rfl rfl yd (ov_add rfl rfl rfl ya) ?_
 refine D_oneV (i := 7) rfl yk rfl rfl yd xaay (OpX.v (ov_nilptr rfl rfl)) ?_
 refine D_oneV (i := 8) rfl yk rfl rfl yd xaay (OpX.v (ov_fieldAddr rfl rfl fa89_0 rfl)) ?_
 refine D_oneV (i := 9) rfl yk rfl rfl yd xaay (OpX.v (ov_indexAddr rfl rfl rfl Tryz.underlying87 rfl Tryz.sizeOf3 ya ya)) ?_
 refine D_one (i := 10) rfl yk rfl trivial (ol_st1 rfl rfl rfl ⟨⟨trivial, yn⟩, (tn ya ya)⟩ rfl yf tok3 ⟨xaay, ?_⟩)
 refine D_end yk ?_
 refine W_seq ?_
 refine W_seq (W_reg ?_)
 refine yM ?_
 refine yM ?_
 refine yR (ov_nilptr rfl rfl) ?_
 refine yR (ov_fieldAddr rfl rfl fa89_0 rfl) ?_
 refine yR (ov_indexAddr rfl rfl rfl Tryz.underlying87 rfl Tryz.sizeOf3 ya ya) ?_
 refine yR (ov_load rfl rfl ye ⟨⟨trivial, yn⟩, (tn ya ya)⟩ rfl rfl tok3) ?_
 refine yR (ov_gtr rfl rfl rfl) ?_
 refine RO_nil ?_
 refine W_condf (congrArg (fun b => some (Value.bool b)) (decide_eq_false hno)) ?_
 refine W_skip ?_
 refine W_seq ?_
 refine W_seq (W_reg ?_)
 refine yM ?_
 refine yM ?_
 refine yR (ov_eql rfl rfl rfl) ?_
 refine RO_nil ?_
 refine W_cond rfl (fun hc2 => ?_) (fun hc2 => ?_)
 ·
  try simp only [yS] at hc2
  have hk0 : k = 0 := by omega
  subst hk0
  have hqs0 : qs.length < 1000000 := by simp only [waysP, List.length_singleton] at hqs; omega
  refine W_seq (W_regl fun w0 => ?_)
  refine zM ?_
  refine yL (ov_load rfl rfl ye trivial rfl rfl tok31) ?_
  refine LO_l rfl (by decide : 38 < 62) (ol_call  rfl rfl rfl hcf (Con.mono (Con.frame (A := [_, _]) (hcb qs p hp hqs0)) ?_))
  rintro _ _ ⟨_, rfl, rfl⟩
  refine LO_nil ?_
  refine W_ret ?_
  refine ⟨trivial, _, _, (ResV_none rfl), (by first | exact ((List.Sublist.refl (Fact.box bw _ _ _ :: _)).cons _).cons _ | exact (List.Sublist.refl (Fact.box bw _ _ _ :: _)).cons _), ?_⟩
  exact xbny
 ·
  try simp only [yS] at hc2
  obtain ⟨k1, rfl⟩ : ∃ k1, k = k1 + 1 := ⟨k - 1, by omega⟩
  refine W_skip ?_
  refine W_seq ?_
  refine W_seq (W_reg ?_)
  refine yR (ov_load rfl rfl ye trivial rfl rfl tok31) ?_
  refine yP (yV rfl rfl rfl Tryz.call33 (by apply c_outcome_Ended <;> exact yz)) ?_
  refine RO_nil ?_
  refine W_cond rfl (fun hc3 => ?_) (fun hc3 => ?_)
  ·
   refine W_ret ?_
   refine ⟨trivial, _, _, (ResV_none rfl), (by first | exact ((List.Sublist.refl (Fact.box bw _ _ _ :: _)).cons _).cons _ | exact (List.Sublist.refl (Fact.box bw _ _ _ :: _)).cons _), ?_⟩
   exact xbny
  ·
   have hll := legalL_len p
   refine W_skip ?_
   refine W_seq (W_regl fun w0 => ?_)
   refine yL (ov_load rfl rfl ye trivial rfl rfl tok31) ?_
   refine LO_l rfl (by decide : 42 < 62) (ol_call (v0 := []) (v2 := []) rfl rfl rfl Tryz.call15 (Con.mono (by apply c_legal_List <;> exact yz) ?_))
   rintro vL _ rfl
   refine yL (ov_len rfl rfl xaby Tryz.underlying48) ?_
   refine zM ?_
   refine LO_nil ?_
   refine W_block ?_
   refine W_loop (σ := Nat × List (El i64)) (fun s => s.1 ≤ (legalL p).length ∧ s.2.length = 65 ∧ ∀ i, gAt s.2 i = gAt g i + (if i = a then 1 else if a < i ∧ i ≤ d then ((waysTo p (i - a - 1) s.1).length : Int) else 0)) (fun s => [(0, ptrv bw walkT []), (2, .int .i64 (a : Int)), (3, .int .i64 (d : Int)), (4, (.func (.func cf) #[] cv.toArray)), (6, ptrv b1 posT []), (42, vL), (43, .int .i64 ((legalL p).length : Int)), (44, .int .i64 (s.1 : Int))]) (fun s => .row vL 55 moveT (legalL p) :: .box b1 31 posT p :: .box bw 89 walkT (s.2, ()) :: (E (qs ++ waysTo p k1 s.1) ++ M0)) (fun s => (legalL p).length - s.1) ((0, bump g a)) ⟨by simp, hbl, walk_I0 hba hbo⟩ ⟨rfl, rfl, rfl, rfl, rfl, rfl, rfl, rfl, trivial⟩ (by show List.Sublist (_ :: _ :: _ :: (E (qs ++ []) ++ M0)) _; rw [List.append_nil]; exact yb) ?_
   rintro ⟨j, gj⟩ ⟨hj, hgl, hgs⟩
   simp only at hj hgl hgs
   refine W_seq (W_reg ?_)
   refine yR (ov_lss rfl rfl rfl) ?_
   refine RO_nil ?_
   refine W_seq ?_
   refine W_cond rfl (fun hc4 => ?_) (fun hc4 => ?_)
   ·
    try simp only [yS] at hc4
    have hmj := legalL_at p (j := j) yo
    have hok := legal_ok hp hmj
    have hokw := hok.wf
    have hmm := allL_mok hp (legalL_mem hmj)
    have hTj : TAB ∈ E (qs ++ waysTo p k1 j) ++ M0 := List.mem_append.2 (.inr hTE)
    have hwn := fun i => waysTo_next p i (j := j) yo
    have hwb := fun i => waysTo_le p i (j + 1) hc3
    refine W_skip ?_
    refine W_seq ?_
    refine W_block ?_
    refine W_seq (W_regl fun w0 => ?_)
    refine yL (ov_indexAddr_sl (t := moveT) rfl rfl xaby rfl Tryz.underlying48 Tryz.sizeOf55 ya ya) ?_
    refine yL (ov_load_e (t := moveT) (p := []) rfl rfl xaby ya trivial rfl rfl tok55) ?_
    refine LO_l rfl (by decide : 11 < 62) (ol_alloc (t := moveT) rfl tok55 yf (fun b2 => ?_))
    refine LO_l rfl trivial (ol_sw0 rfl rfl rfl rfl yf tok55 ?_)
    refine LO_nil ?_
    refine W_seq (W_regl fun w0 => ?_)
    refine yL (ov_load rfl rfl ye trivial rfl rfl tok31) ?_
    refine yL (ov_load rfl rfl ye trivial rfl rfl tok55) ?_
    refine yQ (yV rfl rfl rfl Tryz.call19 (c_after_Move p hp ((legalL p).getD ((j : Nat) : Int).toNat (zero moveT)) hmm _ ye)) ?_
    refine zM ?_
    refine yL (ov_extract rfl rfl rfl) ?_
    refine yL (ov_extract rfl rfl rfl) ?_
    refine LO_l rfl (by decide : 12 < 62) (ol_alloc (t := posT) rfl tok31 yf (fun b3 => ?_))
    refine LO_l rfl trivial (ol_sw0 rfl rfl rfl rfl yf tok31 ?_)
    refine zA ?_
    refine LO_nil ?_
    refine W_regl (fun w0 => ?_)
    refine zM ?_
    refine yL (ov_load rfl rfl ye trivial rfl rfl tok31) ?_
    refine zM ?_
    refine yL (ov_add rfl rfl rfl ya) ?_
    refine zM ?_
    refine zM ?_
    refine LO_l rfl (by decide : 60 < 62) (ol_call (v0 := []) (v2 := []) rfl rfl rfl Tryz.call68 (Con.mono (Con.frame (A := [_, _, _, _]) (ih k1 (Nat.lt_succ_self _) (moveP p ((legalL p).getD ((j : Nat) : Int).toNat (zero moveT))).1 hok (a + 1) d gj (qs ++ waysTo p k1 j) bw hgl yo hd (walk_bnd hbn hgs hwn hwb yo) (walk_q hqs hwn hwb))) ?_))
    rintro _ _ ⟨_, rfl, g2, rfl, hgl2, hgs2⟩
    refine LO_nil ?_
    refine W_reg ?_
    refine yR (ov_add rfl rfl rfl ya) ?_
    refine yM ?_
    refine RO_nil ?_
    exact ⟨(j + 1, g2), xaly, ⟨by simp only; omega, hgl2, walk_I1 hgs hgs2 hwn yo⟩, ⟨rfl, rfl, rfl, rfl, rfl, rfl, rfl, rfl, trivial⟩, (by show List.Sublist (_ :: _ :: _ :: (E (qs ++ waysTo p k1 (j + 1)) ++ M0)) _; rw [hwn k1, ← List.append_assoc]; exact yb)⟩
   ·
    try simp only [yS] at hc4
    refine W_exit ?_
    refine ⟨trivial, _, _, (ResV_none rfl), (by first | exact ((List.Sublist.refl (Fact.box bw _ _ _ :: _)).cons _).cons _ | exact (List.Sublist.refl (Fact.box bw _ _ _ :: _)).cons _), ?_⟩
    exact xbny

theorem walk_all (E : List Pos → List Fact) (M0 : List Fact) (cf : FuncId) (cv : List Value) (hcf : ∀ av w, (callFunc cf av).run Tryz.prog w = .ok (.enter cf av) w) (hTE : TAB ∈ M0) (hcb : ∀ (qs : List Pos) (q : Pos), POK q → qs.length < 1000000 → Con Tryz.prog cf (enc posT q :: cv) (E qs ++ M0) (fun _ M' => M' = E (qs ++ [q]) ++ M0)) : ∀ k, WalkOK E M0 (.func (.func cf) #[] cv.toArray) k := fun k => by
  induction k using Nat.strongRecOn with
  | _ k ih => exact fun p hp a d g qs bw hg hk hd hbn hqs => c_perft_walker_walk E M0 cf cv hcf hTE hcb k ih p hp a d g qs bw hg hk hd hbn hqs
theorem gAt_zero (i : Nat) : gAt (zero (.ar 65 i64)) i = 0 := by
  show (List.replicate 65 (0 : Int)).getD i 0 = 0
  rw [List.getD_eq_getElem?_getD, List.getElem?_replicate]; split <;> rfl
theorem idle67 (x : Value) (w : World) : CallsDIn (fen none) 0 Tryz.prog 67 #[x] .returning w fun e u' w' => e = .returned (.tuple #[]) ∧ u' = .returning ∧ w' = w := by
  refine callsDIn_of_wpSIn Tryz.func67 rfl trivial fun c₀ cs hu => ?_
  apply wpSIn_seq
  apply wpSIn_region
  simp [wpOpsSIn, recoverD, hu, Exit.thenS, execOp, Region.wanted, resolve, invoke, builtin]
  refine ⟨fun _ _ => trivial, wpSIn_of_wpIn rfl ?_⟩
  apply wpIn_block
  apply wpIn_seq
  apply wpIn_region
  have h1 : (eqGuard .eql 20 (.tmp 4) (.const .nilIface) .nilIface .nilIface).run Tryz.prog w = .ok () w := by simp [eqGuard]
  have h2 : (Op.equal 20 .nilIface .nilIface).run Tryz.prog w = .ok true w := by
    have hd : ∀ d, (Op.equalIn (d + 1) 20 .nilIface .nilIface).run Tryz.prog w = .ok true w := fun d => by
      simp [Op.equalIn, run_underlying Tryz.underlying20]
    exact hd 9999
  have h3 : (binOp .eql 20 .nilIface .nilIface).run Tryz.prog w = .ok (.bool true) w := by
    simp only [binOp]; simp [h2]
  simp [wpOpsIn, Region.wanted]
  refine ⟨fun _ _ => trivial, ?_⟩
  generalize ha : ({ tmps := #[x] ++ Array.replicate 9 undef, defers := [] } : Act).put (some 4) .nilIface = a0
  have ev : a0.eval (.tmp 4) = .nilIface := by rw [← ha]; rfl
  have hr : (Oper.semAt (fen none).round a0.eval { dst := some 6, op := .binOp .eql 20 (.tmp 4) (.const .nilIface) 20, type := 4, pos := "perft.go:42", after := #[], guard := none }).run Tryz.prog w = .ok (.value (.bool true)) w := by
    rw [semAt_of rfl]
    unfold execOp
    simp only [ev]
    show ((do pure (Next.value (← (do eqGuard .eql 20 (.tmp 4) (.const .nilIface) .nilIface .nilIface; binOp .eql 20 .nilIface .nilIface)))) : Sem Next).run Tryz.prog w = _
    simp only [Sem.run_bind, h1, h3, Result.andThen_ok, Sem.run_pure]
  rw [hr, Oper.uponIn_value]
  show (Code.cond _ _ _).wpIn _ _ _ _ _ _
  refine wpIn_cond_true (by rw [← ha]; rfl) ?_
  apply wpIn_region
  simp [wpOpsIn, Region.wanted]
  refine ⟨fun _ _ => trivial, ?_⟩
  rw [semAt_of rfl]
  unfold execOp
  simp only [Sem.run_pure, Oper.uponIn_value]
  refine ⟨by rw [← ha]; rfl, .returning, by cases c₀; simp_all, .tuple #[], ?_, rfl, rfl, rfl⟩
  simp [results, Tryz.f67]


theorem c_perft_all (E : List Pos → List Fact) (M0 : List Fact) (cf : FuncId) (cv : List Value) (hcf : ∀ av w, (callFunc cf av).run Tryz.prog w = .ok (.enter cf av) w) (hTE : TAB ∈ M0) (hcb : ∀ (qs : List Pos) (q : Pos), POK q → qs.length < 1000000 → Con Tryz.prog cf (enc posT q :: cv) (E qs ++ M0) (fun _ M' => M' = E (qs ++ [q]) ++ M0)) (p : Pos) (hp : POK p) (d : Nat) (hd : d ≤ 64) (hbn : ∀ i, i ≤ d → ((waysP i p).length : Int) ≤ 1000000) : Con Tryz.prog 26 [enc posT p, .int .i64 (d : Int), (.func (.func cf) #[] cv.toArray)] (E [] ++ M0) (fun v M' => v = .int .i64 0 ∧ M' = E (waysP d p) ++ M0) := by
 have hb := hp.board
 have hpw := hp.wf
 have hvr := hp.vr
 have htu := hp.tu
 have hpg := hp.pg
 have hvr0 := hp.vr
 have htu0 := hp.tu
 simp only [vr] at hvr0
 simp only [tu] at htu0
 have hTq : TAB ∈ E [] ++ M0 := List.mem_append.2 (.inr hTE)
 refine con_of_Gd (n := 13) Tryz.func26 rfl rfl yn Tryz.call67 idle67 ?_
 refine G_seq ?_
 refine G_regl (fun w0 => ?_)
 refine GO_l rfl (by decide : 3 < 13) (ol_box (t := posT) rfl rfl rfl yf (fun b1 => ?_))
 refine GO_l rfl (by decide : 6 < 13) (ol_alloc (t := i64) rfl tok34 yf (fun b2 => ?_))
 refine GO_nil ?_
 refine G_seq ?_
 refine G_def rfl rfl yd (ov_makeFunc rfl rfl rfl) rfl rfl rfl rfl ?_
 refine G_seq ?_
 refine G_regl (fun w0 => ?_)
 refine GO_l rfl (by decide : 8 < 13) (ol_alloc (t := walkT) rfl tok89 yf (fun b3 => ?_))
 refine GO_perm (M1 := .box b2 34 i64 (zero i64) :: .box b1 31 posT p :: .box b3 89 walkT (zero walkT) :: (E [] ++ M0)) (perm_last _ _ _ _) ?_
 refine GO_op rfl rfl yd (OpX.v (ov_load rfl rfl ye trivial rfl rfl tok31)) ?_
 refine GO_op rfl rfl yd (OpX.v (ov_move rfl rfl)) ?_
 refine GO_op rfl rfl yd (OpX.v (ov_move rfl rfl)) ?_
 refine GO_l rfl (by decide : 12 < 13) (ol_call (v0 := []) (v2 := []) rfl rfl rfl Tryz.call68 (Con.mono (Con.frame (A := [_, _]) (by have h := walk_all E M0 cf cv hcf hTE hcb d p hp 0 d (zero (.ar 65 i64)) [] b3 rfl yo hd (fun i hi => by rw [gAt_zero]; have := hbn i hi; omega) (by have := hbn d (Nat.le_refl _); simp only [List.length_nil]; omega); exact h)) ?_))
 rintro _ _ ⟨_, rfl, g2, rfl, _, _⟩
 refine GO_nil ?_
 refine G_seq ?_
 refine G_regl (fun w0 => ?_)
 refine GO_l rfl trivial (ol_sw0 rfl rfl rfl rfl yf tok34 ?_)
 refine GO_nil ?_
 refine G_ret ?_
 refine ⟨trivial, _, rfl, _, _, (ResV_cell rfl rfl ye rfl tok34 rfl), (by first | exact ((List.Sublist.refl (_ ++ M0)).cons _).cons _ | exact (((List.Sublist.refl (_ ++ M0)).cons _).cons _).cons _), rfl, rfl⟩

theorem c_perft_Count_1 (q : Pos) (hq : POK q) (x : Int) (bc : Nat) (M : List Fact) (h0 : 0 ≤ x) (h1 : x ≤ 1000000) : Con Tryz.prog 27 [enc posT q, ptrv bc i64 []] (.box bc 3 i64 x :: M) (fun _ M' => M' = .box bc 3 i64 (x + 1) :: M) := by
 have hpw := hq.wf
 refine con_of_W (n := 5) Tryz.func27 rfl rfl yn ?_
 refine W_seq (W_regl fun w0 => ?_)
 refine LO_l rfl (by decide : 2 < 5) (ol_box (t := posT) rfl rfl rfl yf (fun b1 => ?_))
 refine LO_nil ?_
 refine W_regl (fun w0 => ?_)
 refine yL (ov_load rfl rfl ye trivial rfl rfl tok3) ?_
 refine yL (ov_add rfl rfl rfl ya) ?_
 refine LO_l rfl trivial (ol_sw1 rfl rfl rfl rfl yf tok3 ?_)
 refine LO_nil ?_
 refine ⟨trivial, _, .box bc 3 i64 (x + 1) :: M, (ResV_none rfl), ?_, rfl⟩
 exact yb

theorem c_perft_Count (p : Pos) (hp : POK p) (d : Int) (M : List Fact) (hT : TAB ∈ M) (h0 : -9223372036854775808 ≤ d) (hbn : ∀ i : Nat, (i : Int) ≤ d → d ≤ 64 → ((waysP i p).length : Int) ≤ 1000000) : Pure Tryz.prog 8 [enc posT p, .int .i64 d] M (.tuple #[.int .i64 (countP p d).1, .int .i64 (countP p d).2]) := by
 have hb := hp.board
 have hpw := hp.wf
 have hvr := hp.vr
 have htu := hp.tu
 have hpg := hp.pg
 have hvr0 := hp.vr
 have htu0 := hp.tu
 simp only [vr] at hvr0
 simp only [tu] at htu0
 refine pure_of_W (n := 22) Tryz.func8 rfl rfl yn ?_
 refine W_seq (W_regl fun w0 => ?_)
 refine LO_l rfl (by decide : 2 < 22) (ol_box (t := posT) rfl rfl rfl yf (fun b1 => ?_))
 refine zA ?_
 refine zA ?_
 refine LO_nil ?_
 refine W_seq ?_
 refine W_seq (W_reg ?_)
 refine yM ?_
 refine yR (ov_lss rfl rfl rfl) ?_
 refine yM ?_
 refine yG (fun hg => OpX.v (ov_move rfl rfl)) ?_
 refine yG (fun hg => OpX.v (ov_gtr rfl (look_gv rfl (bq hg)) rfl)) ?_
 refine yR (ov_or rfl rfl rfl rfl (fun h => bq h)) ?_
 refine RO_nil ?_
 refine W_cond rfl (fun hc1 => ?_) (fun hc1 => ?_)
 ·
  refine W_seq (W_reg ?_)
  refine yA_ ?_
  refine yA_ ?_
  refine RO_nil ?_
  refine W_ret ?_
  refine ⟨trivial, yb, (ResV_tmp2q rfl rfl rfl ?_)⟩
  first | exact count_no hc1 | exact count_yes hc1
 ·
  obtain ⟨dn, rfl, hdn⟩ := deep_nat hc1
  have hcn := hbn dn (Int.le_refl _) yo
  refine W_skip ?_
  refine W_seq (W_regl fun w0 => ?_)
  refine LO_l rfl (by decide : 6 < 22) (ol_alloc (t := i64) rfl tok3 yf (fun b2 => ?_))
  refine LO_l rfl trivial (ol_sw0 rfl rfl rfl rfl yf tok3 ?_)
  refine LO_nil ?_
  refine W_seq ?_
  refine W_seq (W_regl fun w0 => ?_)
  refine yL (ov_load rfl rfl ye trivial rfl rfl tok31) ?_
  refine zM ?_
  refine yL (ov_makeFunc rfl rfl rfl) ?_
  refine LO_l rfl (by decide : 17 < 22) (ol_call (v0 := []) (v2 := []) rfl rfl rfl Tryz.call26 (Con.mono (c_perft_all (fun qs => ([.box b2 3 i64 (qs.length : Int)] : List Fact)) (Fact.box b1 31 posT p :: M) 27 [ptrv b2 i64 []] Tryz.call27 (.tail _ hT) (fun qs q hq hl => by have h := c_perft_Count_1 q hq (qs.length : Int) b2 (Fact.box b1 31 posT p :: M) yo yo; refine Con.mono h ?_; rintro v M1 rfl; show _ = Fact.box b2 3 i64 (((qs ++ [q]).length : Nat) : Int) :: _; rw [List.length_append]; rfl) p hp dn hdn (fun i hi => hbn i yo yo)) ?_))
  rintro _ _ ⟨rfl, rfl⟩
  refine zA ?_
  refine LO_nil ?_
  refine W_seq (W_reg ?_)
  refine yM ?_
  refine yR (ov_neq rfl rfl rfl) ?_
  refine RO_nil ?_
  refine W_condf rfl ?_
  refine W_skip ?_
  refine W_seq (W_reg ?_)
  refine yR (ov_load rfl rfl ye trivial rfl rfl tok3) ?_
  refine yA_ ?_
  refine yA_ ?_
  refine RO_nil ?_
  refine W_ret ?_
  refine ⟨trivial, yb, (ResV_tmp2q rfl rfl rfl ?_)⟩
  first | exact count_no hc1 | exact count_yes hc1

theorem c_perft_Ends_1 (q : Pos) (hq : POK q) (l : List (El i64)) (bc : Nat) (M : List Fact) (hT : TAB ∈ M) (hl : l.length = 4) (hlr : ∀ i, 0 ≤ gAt l i ∧ gAt l i ≤ 1000000) : Con Tryz.prog 28 [enc posT q, ptrv bc (.ar 4 i64) []] (.box bc 37 (.ar 4 i64) l :: M) (fun _ M' => M' = .box bc 37 (.ar 4 i64) (talF l q) :: M) := by
 have hpw := hq.wf
 have hst := outP_state hq
 have hst1 : @LE.le Int _ 0 (outP q).1 := hst.1
 have hst2 : @LE.le Int _ (outP q).1 3 := hst.2
 have hlq := hlr (outP q).1.toNat
 have hlr0 : @LE.le Int _ 0 (List.getD l (outP q).1.toNat (zero i64)) ∧ @LE.le Int _ (List.getD l (outP q).1.toNat (zero i64)) 1000000 := hlq
 refine con_of_W (n := 10) Tryz.func28 rfl rfl yn ?_
 refine W_seq (W_regl fun w0 => ?_)
 refine LO_l rfl (by decide : 2 < 10) (ol_box (t := posT) rfl rfl rfl yf (fun b1 => ?_))
 refine LO_nil ?_
 refine W_regl (fun w0 => ?_)
 refine yL (ov_load rfl rfl ye trivial rfl rfl tok31) ?_
 refine yQ (yV rfl rfl rfl Tryz.call21 (c_outcome_Of q hq _ ye)) ?_
 refine yL (ov_field (t := resT) rfl rfl yf rfl Tryz.underlying58 rfl yn rfl rfl rfl tok5) ?_
 refine yL (ov_indexAddr rfl rfl rfl Tryz.underlying37 rfl Tryz.sizeOf3 ya ya) ?_
 refine yL (ov_load rfl rfl ye ⟨trivial, (tn ya ya)⟩ rfl rfl tok3) ?_
 refine yL (ov_add rfl rfl rfl ya) ?_
 refine yL (ov_indexAddr rfl rfl rfl Tryz.underlying37 rfl Tryz.sizeOf3 ya ya) ?_
 refine LO_l rfl trivial (ol_st1 rfl rfl rfl ⟨trivial, (tn ya ya)⟩ rfl yf tok3 ?_)
 refine LO_nil ?_
 refine ⟨trivial, _, .box bc 37 (.ar 4 i64) (talF l q) :: M, (ResV_none rfl), ?_, rfl⟩
 exact yb

theorem c_perft_Ends (p : Pos) (hp : POK p) (d : Int) (M : List Fact) (hT : TAB ∈ M) (h0 : -9223372036854775808 ≤ d) (hbn : ∀ i : Nat, (i : Int) ≤ d → d ≤ 64 → ((waysP i p).length : Int) ≤ 1000000) : Pure Tryz.prog 9 [enc posT p, .int .i64 d] M (.tuple #[enc (.ar 4 i64) (endsP p d).1, .int .i64 (endsP p d).2]) := by
 have hb := hp.board
 have hpw := hp.wf
 have hvr := hp.vr
 have htu := hp.tu
 have hpg := hp.pg
 have hvr0 := hp.vr
 have htu0 := hp.tu
 simp only [vr] at hvr0
 simp only [tu] at htu0
 refine pure_of_W (n := 24) Tryz.func9 rfl rfl yn ?_
 refine W_seq (W_regl fun w0 => ?_)
 refine LO_l rfl (by decide : 2 < 24) (ol_box (t := posT) rfl rfl rfl yf (fun b1 => ?_))
 refine LO_l rfl (by decide : 4 < 24) (ol_alloc (t := (.ar 4 i64)) rfl tok37 yf (fun b2 => ?_))
 refine zA ?_
 refine LO_nil ?_
 refine W_seq ?_
 refine W_seq (W_reg ?_)
 refine yM ?_
 refine yR (ov_lss rfl rfl rfl) ?_
 refine yM ?_
 refine yG (fun hg => OpX.v (ov_move rfl rfl)) ?_
 refine yG (fun hg => OpX.v (ov_gtr rfl (look_gv rfl (bq hg)) rfl)) ?_
 refine yR (ov_or rfl rfl rfl rfl (fun h => bq h)) ?_
 refine RO_nil ?_
 refine W_cond rfl (fun hc1 => ?_) (fun hc1 => ?_)
 ·
  refine W_seq (W_regl fun w0 => ?_)
  refine yL (ov_buildA (t := i64) (ds := []) rfl rfl bl37 trivial rfl) ?_
  refine LO_l rfl trivial (ol_sw0 rfl rfl rfl rfl yf tok37 ?_)
  refine zA ?_
  refine LO_nil ?_
  refine W_ret ?_
  refine ⟨trivial, yb, (ResV_cell_tmp rfl rfl ye rfl tok37 rfl ?_)⟩
  first | exact ends_no hc1 | exact ends_yes hc1
 ·
  obtain ⟨dn, rfl, hdn⟩ := deep_nat hc1
  have hcn := hbn dn (Int.le_refl _) yo
  have hwt : wf (.ar 4 i64) (tallyP (waysP dn p)) := ⟨tally_len _, fun _ _ => trivial⟩
  refine W_skip ?_
  refine W_seq (W_regl fun w0 => ?_)
  refine LO_l rfl (by decide : 6 < 24) (ol_alloc (t := (.ar 4 i64)) rfl tok37 yf (fun b3 => ?_))
  refine LO_nil ?_
  refine W_seq ?_
  refine W_seq (W_regl fun w0 => ?_)
  refine yL (ov_load rfl rfl ye trivial rfl rfl tok31) ?_
  refine zM ?_
  refine yL (ov_makeFunc rfl rfl rfl) ?_
  refine LO_l rfl (by decide : 18 < 24) (ol_call (v0 := []) (v2 := []) rfl rfl rfl Tryz.call26 (Con.mono (c_perft_all (fun qs => ([Fact.box b3 37 (.ar 4 i64) (tallyP qs)] : List Fact)) (Fact.box b2 37 (.ar 4 i64) (zero (.ar 4 i64)) :: Fact.box b1 31 posT p :: M) 28 [ptrv b3 (.ar 4 i64) []] Tryz.call28 (.tail _ (.tail _ hT)) (fun qs q hq hl => by have h := c_perft_Ends_1 q hq (tallyP qs) b3 (Fact.box b2 37 (.ar 4 i64) (zero (.ar 4 i64)) :: Fact.box b1 31 posT p :: M) (.tail _ (.tail _ hT)) (tally_len qs) (fun i => tally_rng qs i yo); refine Con.mono h ?_; rintro v M1 rfl; show _ = Fact.box b3 37 (.ar 4 i64) (tallyP (qs ++ [q])) :: _; rw [tally_snoc]; rfl) p hp dn hdn (fun i hi => hbn i yo yo)) ?_))
  rintro _ _ ⟨rfl, rfl⟩
  refine zA ?_
  refine LO_nil ?_
  refine W_seq (W_reg ?_)
  refine yM ?_
  refine yR (ov_neq rfl rfl rfl) ?_
  refine RO_nil ?_
  refine W_condf rfl ?_
  refine W_skip ?_
  refine W_seq (W_regl fun w0 => ?_)
  refine yL (ov_load rfl rfl ye trivial rfl rfl tok37) ?_
  refine LO_l rfl trivial (ol_sw1 rfl rfl rfl rfl yf tok37 ?_)
  refine zA ?_
  refine LO_nil ?_
  refine W_ret ?_
  refine ⟨trivial, yb, (ResV_cell_tmp rfl rfl ye rfl tok37 rfl ?_)⟩
  first | exact ends_no hc1 | exact ends_yes hc1
end Go.Kw
set_option linter.unusedVariables false
set_option linter.unusedSimpArgs false
namespace Go.Kw
open Go.Proofs
theorem tok82 : TyOK Tryz.prog 82 (.ar 8 u8) := ⟨Tryz.isAgg82, Tryz.sizeOf82, Tryz.zeroValue82⟩
set_option maxRecDepth 20000 in
theorem bl28 : BuildOKa Tryz.prog 28 2 (.ar 2 i8) := ⟨_, _, _, rfl, rfl, Tryz.underlying28, rfl, rfl⟩
abbrev fs30 : List Ty := [u8, (.ar 64 u8), u64, (.ar 2 (.ar 6 u8)), u8, (.ar 2 (.ar 2 i8)), i8, (.ar 2 u8), i64, i64]
set_option maxRecDepth 20000 in
theorem bl31 : BuildOK Tryz.prog 31 fs30 := ⟨_, _, rfl, rfl, Tryz.underlying31, by kernel_rfl⟩
set_option maxRecDepth 20000 in
theorem bl82 : BuildOKa Tryz.prog 82 8 u8 := ⟨_, _, _, rfl, rfl, Tryz.underlying82, rfl, rfl⟩

def noneP (v : Int) : Pos := (v, (zero (.ar 64 u8) : List (El u8)), (0#64 : BitVec 64), (zero (.ar 2 (.ar 6 u8)) : List (List (El u8))), (0 : Int), ([[-1, -1], [-1, -1]] : List (List Int)), (-1 : Int), (zero (.ar 2 u8) : List (El u8)), (0 : Int), (1 : Int), ())
def chessL : List (El u8) := ([4, 2, 3, 5, 6, 3, 2, 4] : List Int)
theorem chess_rng : ∀ i, 0 ≤ (show List Int from chessL).getD i 0 ∧ (show List Int from chessL).getD i 0 ≤ 7 := fun i => by
  by_cases h : i < 8
  · have : ∀ j : Fin 8, 0 ≤ ([4, 2, 3, 5, 6, 3, 2, 4] : List Int).getD j.val 0 ∧ ([4, 2, 3, 5, 6, 3, 2, 4] : List Int).getD j.val 0 ≤ 7 := by decide
    exact this ⟨i, h⟩
  · show 0 ≤ ([4, 2, 3, 5, 6, 3, 2, 4] : List Int).getD i 0 ∧ ([4, 2, 3, 5, 6, 3, 2, 4] : List Int).getD i 0 ≤ 7
    rw [List.getD_eq_getElem?_getD, List.getElem?_eq_none (by simp; omega)]; simp
def both1 (p : Pos) (l : List (El u8)) (i : Nat) : Pos := putB (putB (putB (putB p (i : Int) (l.getD ((i : Nat) : Int).toNat (zero u8))) (8 + (i : Int)) 1) (56 + (i : Int)) (8 + l.getD ((i : Nat) : Int).toNat (zero u8))) (48 + (i : Int)) (8 + 1)
def sideN (p : Pos) : Int := if rkAt p 0 1 < 0 then 1 else 0
def both2 (p : Pos) (i : Nat) : Pos := setRk (setRk p 0 (sideN p) (i : Int)) 1 (sideN p) (i : Int)
def bothJ (v : Int) (l : List (El u8)) : Nat → Pos
  | 0 => noneP v
  | i + 1 => if (castlesP v && decide ((show Int from l.getD ((i : Nat) : Int).toNat (zero u8)) = 4)) = true then both2 (both1 (bothJ v l i) l i) i else both1 (bothJ v l i) l i
theorem bothJ_yes {v : Int} {l : List (El u8)} {i : Nat} (h : (castlesP v && decide ((show Int from l.getD ((i : Nat) : Int).toNat (zero u8)) = 4)) = true) : bothJ v l (i + 1) = both2 (both1 (bothJ v l i) l i) i := by rw [bothJ, if_pos h]
theorem bothJ_no {v : Int} {l : List (El u8)} {i : Nat} (h : (castlesP v && decide ((show Int from l.getD ((i : Nat) : Int).toNat (zero u8)) = 4)) = false) : bothJ v l (i + 1) = both1 (bothJ v l i) l i := by rw [bothJ, if_neg xawy]
theorem sideN_rng (p : Pos) : 0 ≤ sideN p ∧ sideN p ≤ 1 := by unfold sideN; split <;> omega
theorem rep_getD (n : Nat) (x : Int) (i : Nat) (hx : x = 0) : (List.replicate n x).getD i 0 = 0 := by
  subst hx; rw [List.getD_eq_getElem?_getD, List.getElem?_replicate]; split <;> rfl
theorem POK_none {v : Int} (h0 : 0 ≤ v) (h1 : v ≤ 255) : POK (noneP v) := by
  refine ⟨⟨trivial, wf_zero (.ar 64 u8), trivial, wf_zero (.ar 2 (.ar 6 u8)), trivial, wf_of_q rfl, trivial, wf_zero (.ar 2 u8), trivial, trivial, trivial⟩, fun i => ?_, ⟨h0, h1⟩, ⟨by show (0 : Int) ≤ 0; decide, by show (0 : Int) ≤ 255; decide⟩, ⟨by show (-128 : Int) ≤ -1; decide, by show (-1 : Int) ≤ 127; decide⟩, ⟨by show (-9223372036854775808 : Int) ≤ 0; decide, by show (0 : Int) ≤ 9223372036854775807; decide⟩, ⟨by show (-9223372036854775808 : Int) ≤ 1; decide, by show (1 : Int) ≤ 9223372036854775807; decide⟩, fun c k => ?_, fun c k => ?_, fun c => ?_⟩
  · show 0 ≤ (List.replicate 64 (0 : Int)).getD i 0 ∧ (List.replicate 64 (0 : Int)).getD i 0 ≤ 255
    rw [rep_getD _ _ _ rfl]; decide
  · show 0 ≤ ((List.replicate 2 (List.replicate 6 (0 : Int))).getD c []).getD k 0 ∧ ((List.replicate 2 (List.replicate 6 (0 : Int))).getD c []).getD k 0 ≤ 255
    rw [List.getD_eq_getElem?_getD (l := List.replicate 2 _), List.getElem?_replicate]
    split
    · show 0 ≤ (List.replicate 6 (0 : Int)).getD k 0 ∧ (List.replicate 6 (0 : Int)).getD k 0 ≤ 255
      rw [rep_getD _ _ _ rfl]; decide
    · simp
  · show -128 ≤ (([[-1, -1], [-1, -1]] : List (List Int)).getD c []).getD k 0 ∧ (([[-1, -1], [-1, -1]] : List (List Int)).getD c []).getD k 0 ≤ 127
    have hr : ∀ k : Nat, -128 ≤ ([-1, -1] : List Int).getD k 0 ∧ ([-1, -1] : List Int).getD k 0 ≤ 127 := fun k => by
      match k with
      | 0 => decide
      | 1 => decide
      | k + 2 => exact ⟨by show (-128 : Int) ≤ 0; decide, by show (0 : Int) ≤ 127; decide⟩
    match c with
    | 0 => exact hr k
    | 1 => exact hr k
    | c + 2 => exact ⟨by show (-128 : Int) ≤ 0; decide, by show (0 : Int) ≤ 127; decide⟩
  · show 0 ≤ (List.replicate 2 (0 : Int)).getD c 0 ∧ (List.replicate 2 (0 : Int)).getD c 0 ≤ 255
    rw [rep_getD _ _ _ rfl]; decide
theorem POK_both1 {p : Pos} (hp : POK p) {l : List (El u8)} (hlr : ∀ i, 0 ≤ (show List Int from l).getD i 0 ∧ (show List Int from l).getD i 0 ≤ 7) (i : Nat) : POK (both1 p l i) := by
  have h : 0 ≤ (show Int from l.getD ((i : Nat) : Int).toNat (zero u8)) ∧ (show Int from l.getD ((i : Nat) : Int).toNat (zero u8)) ≤ 7 := hlr i
  exact POK_put (POK_put (POK_put (POK_put hp _ h.1 (Int.le_trans h.2 yd)) _ yd yd) _ (Int.add_nonneg yd h.1) (by have := h.2; show 8 + (show Int from l.getD ((i : Nat) : Int).toNat (zero u8)) ≤ 255; omega)) _ yd yd
theorem POK_bothJ {v : Int} (h0 : 0 ≤ v) (h1 : v ≤ 255) {l : List (El u8)} (hlr : ∀ i, 0 ≤ (show List Int from l).getD i 0 ∧ (show List Int from l).getD i 0 ≤ 7) : ∀ i, i ≤ 8 → POK (bothJ v l i)
  | 0, _ => POK_none h0 h1
  | i + 1, h => by
    have ih := POK_both1 (POK_bothJ h0 h1 hlr i yo) hlr i
    rw [bothJ]; split
    · exact POK_setRk (POK_setRk ih _ _ yo yo) _ _ yo yo
    · exact ih
def startP : Pos := bothJ 0 chessL 8
theorem startP_ok : POK startP := POK_bothJ yd yd chess_rng 8 (Nat.le_refl _)

theorem c_rules_none (v : Int) (M : List Fact) : Pure Tryz.prog 136 [.int .u8 v] M (enc posT (noneP v)) := by
 have hw1 : wf (.ar 2 i8) ([-1, -1] : List Int) := ⟨rfl, fun _ _ => trivial⟩
 have hw2 : wf (.ar 2 (.ar 2 i8)) ([[-1, -1], [-1, -1]] : List (List Int)) := wf_of_q rfl
 refine pure_of_W (n := 8) Tryz.func136 rfl rfl yn ?_
 refine W_seq (W_regl fun w0 => ?_)
 refine LO_l rfl (by decide : 2 < 8) (ol_alloc (t := posT) rfl tok31 yf (fun b1 => ?_))
 refine LO_nil ?_
 refine W_seq (W_regl fun w0 => ?_)
 refine zM ?_
 refine yL (ov_buildA (t := i8) (ds := [(0, _), (1, _)]) rfl rfl bl27 ⟨yn, yf, ⟨yn, yf, trivial⟩⟩ rfl) ?_
 refine yL (ov_buildA (t := i8) (ds := [(0, _), (1, _)]) rfl rfl bl27 ⟨yn, yf, ⟨yn, yf, trivial⟩⟩ rfl) ?_
 refine yL (ov_buildA (t := (.ar 2 i8)) (ds := [(0, _), (1, _)]) rfl rfl bl28 ⟨yn, yf, ⟨yn, yf, trivial⟩⟩ rfl) ?_
 refine yL (ov_build (fs := fs30) (ds := [⟨0, _⟩, ⟨6, _⟩, ⟨9, _⟩, ⟨5, _⟩]) rfl rfl bl31 ⟨yn, yf, ⟨yn, yf, ⟨yn, yf, ⟨yn, yf, trivial⟩⟩⟩⟩ rfl) ?_
 refine LO_l rfl trivial (ol_sw0 rfl rfl rfl rfl yf tok31 ?_)
 refine LO_nil ?_
 refine W_ret ?_
 refine ⟨trivial, yb, (ResV_cell rfl rfl ye rfl tok31 ?_)⟩
 rfl

theorem c_rules_black (kd : Int) (M : List Fact) (h0 : 0 ≤ kd) (h1 : kd ≤ 7) : Pure Tryz.prog 137 [.int .u8 kd] M (.int .u8 (8 + kd)) := by
 refine pure_of_W (n := 5) Tryz.func137 rfl rfl yn ?_
 refine W_seq (W_reg ?_)
 refine yA_ ?_
 refine RO_nil ?_
 refine W_seq (W_reg ?_)
 refine yM ?_
 refine yR (ov_add rfl rfl rfl ya) ?_
 refine yA_ ?_
 refine RO_nil ?_
 refine W_ret ?_
 refine ⟨trivial, yb, (ResV_tmp1 rfl rfl ?_)⟩
 rfl

theorem c_rules_chess (M : List Fact) : Pure Tryz.prog 66 [] M (enc (.ar 8 u8) chessL) := by
 refine pure_of_W (n := 2) Tryz.func66 rfl rfl yn ?_
 refine W_seq (W_regl fun w0 => ?_)
 refine LO_l rfl (by decide : 0 < 2) (ol_alloc (t := (.ar 8 u8)) rfl tok82 yf (fun b1 => ?_))
 refine LO_nil ?_
 refine W_seq (W_regl fun w0 => ?_)
 refine yL (ov_buildA (t := u8) (ds := [(0, _), (1, _), (2, _), (3, _), (4, _), (5, _), (6, _), (7, _)]) rfl rfl bl82 ⟨yn, yf, ⟨yn, yf, ⟨yn, yf, ⟨yn, yf, ⟨yn, yf, ⟨yn, yf, ⟨yn, yf, ⟨yn, yf, trivial⟩⟩⟩⟩⟩⟩⟩⟩ rfl) ?_
 refine LO_l rfl trivial (ol_sw0 rfl rfl rfl rfl yf tok82 ?_)
 refine LO_nil ?_
 refine W_ret ?_
 refine ⟨trivial, yb, (ResV_cell rfl rfl ye rfl tok82 ?_)⟩
 rfl

theorem c_rules_both (v : Int) (l : List (El u8)) (M : List Fact) (h0 : 0 ≤ v) (h1 : v ≤ 255) (hl : l.length = 8) (hlr : ∀ i, 0 ≤ (show List Int from l).getD i 0 ∧ (show List Int from l).getD i 0 ≤ 7) : Pure Tryz.prog 65 [.int .u8 v, enc (.ar 8 u8) l] M (enc posT (bothJ v l 8)) := by
 have hlw : wf (.ar 8 u8) l := ⟨hl, fun _ _ => trivial⟩
 have hnw := (POK_none h0 h1).wf
 refine pure_of_W (n := 60) Tryz.func65 rfl rfl yn ?_
 refine W_seq (W_regl fun w0 => ?_)
 refine LO_l rfl (by decide : 3 < 60) (ol_box (t := (.ar 8 u8)) rfl rfl rfl yf (fun b1 => ?_))
 refine LO_l rfl (by decide : 4 < 60) (ol_alloc (t := posT) rfl tok31 yf (fun b2 => ?_))
 refine LO_nil ?_
 refine W_seq (W_regl fun w0 => ?_)
 refine zM ?_
 refine yQ (yV rfl rfl rfl Tryz.call136 (by apply c_rules_none <;> exact yz)) ?_
 refine LO_l rfl (by decide : 5 < 60) (ol_alloc (t := posT) rfl tok31 yf (fun b3 => ?_))
 refine LO_l rfl trivial (ol_sw0 rfl rfl rfl rfl yf tok31 ?_)
 refine LO_nil ?_
 refine W_seq ?_
 refine W_seq (W_reg ?_)
 refine yR (ov_load rfl rfl ye trivial rfl rfl tok82) ?_
 refine yM ?_
 refine RO_nil ?_
 refine W_block ?_
 refine W_loop (σ := Nat) (fun s5 => s5 ≤ 8) (fun s5 => [(4, ptrv b2 posT []), (5, ptrv b3 posT []), (0, .int .u8 v), (11, enc (.ar 8 u8) l), (12, .int .i64 (s5 : Int))]) (fun s5 => .box b3 31 posT (bothJ v l s5) :: .box b2 31 posT (zero posT) :: .box b1 82 (.ar 8 u8) l :: M) (fun s5 => 8 - s5) (0) (by simp) ⟨rfl, rfl, rfl, rfl, rfl, trivial⟩ yb ?_
 rintro i hI
 refine W_seq (W_reg ?_)
 refine yR (ov_lss rfl rfl rfl) ?_
 refine RO_nil ?_
 refine W_seq ?_
 refine W_cond rfl (fun hc1 => ?_) (fun hc1 => ?_)
 ·
  try simp only [yS] at hc1
  have hpi := POK_bothJ h0 h1 hlr i yo
  have hpw := hpi.wf
  have hlk : @LE.le Int _ 0 ((l).getD ((i : Nat) : Int).toNat (zero u8)) ∧ @LE.le Int _ ((l).getD ((i : Nat) : Int).toNat (zero u8)) 7 := hlr i
  refine W_skip ?_
  refine W_seq ?_
  refine W_block ?_
  refine W_seq (W_reg ?_)
  refine yM ?_
  refine yR (ov_index (t := (.ar 8 u8)) rfl rfl yf rfl rfl Tryz.underlying82 ya ya (tn ya ya) rfl rfl rfl tok5) ?_
  refine yA_ ?_
  refine yA_ ?_
  refine RO_nil ?_
  refine W_seq (W_regl fun w0 => ?_)
  refine zM ?_
  refine zM ?_
  refine yL (ov_add rfl rfl rfl ya) ?_
  refine zM ?_
  refine yL (ov_fieldAddr rfl rfl fa31_1 rfl) ?_
  refine yL (ov_indexAddr rfl rfl rfl Tryz.underlying22 rfl Tryz.sizeOf5 ya ya) ?_
  refine LO_l rfl trivial (ol_st0 rfl rfl rfl ⟨⟨trivial, yn⟩, (tn ya ya)⟩ rfl yf tok5 ?_)
  refine yL (ov_fieldAddr rfl rfl fa31_1 rfl) ?_
  refine yL (ov_indexAddr rfl rfl rfl Tryz.underlying22 rfl Tryz.sizeOf5 ya ya) ?_
  refine LO_l rfl trivial (ol_st0 rfl rfl rfl ⟨⟨trivial, yn⟩, (tn ya ya)⟩ rfl yf tok5 ?_)
  refine LO_nil ?_
  refine W_cut [(4, ptrv b2 posT []), (5, ptrv b3 posT []), (0, .int .u8 v), (11, enc (.ar 8 u8) l), (12, .int .i64 (i : Int)), (6, .int .i64 (i : Int)), (7, .int .u8 ((l).getD ((i : Nat) : Int).toNat (zero u8)))] (.box b3 31 posT (both1 (bothJ v l i) l i) :: .box b2 31 posT (zero posT) :: .box b1 82 (.ar 8 u8) l :: M) ?_ ?_
  ·
   refine W_regD (fun i => !Nat.beq i 9 && !Nat.beq i 12) mixed (fun w0 => ?_)
   refine D_mem0 (i := 0) rfl yk yk rfl rfl yd (ov_move rfl rfl) ?_
   refine D_mem0 (i := 1) rfl yk yk rfl rfl yd (ov_add rfl rfl rfl ya) ?_
   refine D_pure0 (i := 2) rfl yk rfl rfl yd (ov_move rfl rfl) ?_
   refine D_pure0 (i := 3) rfl yk rfl rfl yd (ov_add rfl rfl rfl ya) ?_
   refine D_mem0 (i := 4) rfl yk yk rfl rfl yd (ov_move rfl rfl) ?_
   refine D_mem0 (i := 7) rfl yk yk rfl rfl yd (ov_fieldAddr rfl rfl fa31_1 rfl) ?_
   refine D_pure0 (i := 10) rfl yk rfl rfl yd (ov_fieldAddr rfl rfl fa31_1 rfl) ?_
   refine D_oneV (i := 5) rfl yk rfl rfl yd xaay (yV rfl rfl rfl Tryz.call137 (c_rules_black _ _ hlk.1 hlk.2)) ?_
   refine D_mem0 (i := 8) rfl yk yk rfl rfl yd (ov_indexAddr rfl rfl rfl Tryz.underlying22 rfl Tryz.sizeOf5 ya ya) ?_
   refine D_oneV (i := 6) rfl yk rfl rfl yd xaay (yV rfl rfl rfl Tryz.call137 (c_rules_black 1 _ yd yd)) ?_
   refine D_one (i := 9) rfl yk rfl trivial (ol_st0 rfl rfl rfl ⟨⟨trivial, yn⟩, (tn ya ya)⟩ rfl yf tok5 ⟨xaay, ?_⟩)
   refine D_oneV (i := 11) rfl yk rfl rfl yd xaay (OpX.v (ov_indexAddr rfl rfl rfl Tryz.underlying22 rfl Tryz.sizeOf5 ya ya)) ?_
   refine D_one (i := 12) rfl yk rfl trivial (ol_st0 rfl rfl rfl ⟨⟨trivial, yn⟩, (tn ya ya)⟩ rfl yf tok5 ⟨xaay, ?_⟩)
   refine D_end yk ?_
   exact ⟨⟨rfl, rfl, rfl, rfl, rfl, rfl, rfl, trivial⟩, yb⟩
  ·
   have hq1 := POK_both1 hpi hlr i
   have hrk := rkAt_rng hq1 0 1
   have hq1w := hq1.wf
   refine W_seq (W_reg ?_)
   refine yM ?_
   refine yP (yV rfl rfl rfl Tryz.call138 (by apply c_rules_Castles <;> exact yz)) ?_
   refine yM ?_
   refine yG (fun hg => OpX.v (ov_move rfl rfl)) ?_
   refine yG (fun hg => OpX.v (ov_eql rfl (look_gv rfl (bq hg)) rfl)) ?_
   refine yR (ov_and rfl rfl rfl rfl (fun h => bq h)) ?_
   refine RO_nil ?_
   refine W_cond rfl (fun hc2 => ?_) (fun hc2 => ?_)
   ·
    refine W_seq (W_reg ?_)
    refine yA_ ?_
    refine RO_nil ?_
    refine W_cut [(4, ptrv b2 posT []), (5, ptrv b3 posT []), (0, .int .u8 v), (11, enc (.ar 8 u8) l), (12, .int .i64 (i : Int)), (6, .int .i64 (i : Int)), (8, .int .i64 (sideN (both1 (bothJ v l i) l i)))] (.box b3 31 posT (both1 (bothJ v l i) l i) :: .box b2 31 posT (zero posT) :: .box b1 82 (.ar 8 u8) l :: M) ?_ ?_
    ·
     refine W_seq (W_reg ?_)
     refine yR (ov_fieldAddr rfl rfl fa31_5 rfl) ?_
     refine yR (ov_indexAddr rfl rfl rfl Tryz.underlying28 rfl Tryz.sizeOf27 ya ya) ?_
     refine yR (ov_indexAddr rfl rfl rfl Tryz.underlying27 rfl Tryz.sizeOf26 ya ya) ?_
     refine yR (ov_load rfl rfl ye ⟨⟨⟨trivial, yn⟩, (tn ya ya)⟩, (tn ya ya)⟩ rfl rfl tok26) ?_
     refine yR (ov_lss rfl rfl rfl) ?_
     refine RO_nil ?_
     refine W_cond rfl (fun hc3 => ?_) (fun hc3 => ?_)
     ·
      try simp only [yS] at hc3
      refine W_reg ?_
      refine yA_ ?_
      refine RO_nil ?_
      exact ⟨⟨rfl, rfl, rfl, rfl, rfl, rfl, congrArg some (val_int (by first | exact (if_pos yA).symm | exact (if_neg (Int.not_lt.2 yA)).symm)), trivial⟩, yb⟩
     ·
      try simp only [yS] at hc3
      refine W_skip ?_
      exact ⟨⟨rfl, rfl, rfl, rfl, rfl, rfl, congrArg some (val_int (by first | exact (if_pos yA).symm | exact (if_neg (Int.not_lt.2 yA)).symm)), trivial⟩, yb⟩
    ·
     have hsd := sideN_rng (both1 (bothJ v l i) l i)
     refine W_regl (fun w0 => ?_)
     refine zM ?_
     refine zM ?_
     refine zM ?_
     refine yL (ov_convn rfl rfl Tryz.underlying3 Tryz.underlying26 ya) ?_
     refine zM ?_
     refine yL (ov_convn rfl rfl Tryz.underlying3 Tryz.underlying26 ya) ?_
     refine yL (ov_fieldAddr rfl rfl fa31_5 rfl) ?_
     refine yL (ov_indexAddr rfl rfl rfl Tryz.underlying28 rfl Tryz.sizeOf27 ya ya) ?_
     refine yL (ov_indexAddr rfl rfl rfl Tryz.underlying27 rfl Tryz.sizeOf26 ya ya) ?_
     refine LO_l rfl trivial (ol_st0 rfl rfl rfl ⟨⟨⟨trivial, yn⟩, (tn ya ya)⟩, (tn ya ya)⟩ rfl yf tok26 ?_)
     refine yL (ov_fieldAddr rfl rfl fa31_5 rfl) ?_
     refine yL (ov_indexAddr rfl rfl rfl Tryz.underlying28 rfl Tryz.sizeOf27 ya ya) ?_
     refine yL (ov_indexAddr rfl rfl rfl Tryz.underlying27 rfl Tryz.sizeOf26 ya ya) ?_
     refine LO_l rfl trivial (ol_st0 rfl rfl rfl ⟨⟨⟨trivial, yn⟩, (tn ya ya)⟩, (tn ya ya)⟩ rfl yf tok26 ?_)
     refine LO_nil ?_
     refine W_reg ?_
     refine yR (ov_add rfl rfl rfl ya) ?_
     refine yM ?_
     refine RO_nil ?_
     exact ⟨i + 1, yo, yo, ⟨rfl, rfl, rfl, rfl, rfl, trivial⟩, (by first | (rw [bothJ_yes hc2]; exact yb) | (rw [bothJ_no hc2]; exact yb))⟩
   ·
    refine W_skip ?_
    refine W_reg ?_
    refine yR (ov_add rfl rfl rfl ya) ?_
    refine yM ?_
    refine RO_nil ?_
    exact ⟨i + 1, yo, yo, ⟨rfl, rfl, rfl, rfl, rfl, trivial⟩, (by first | (rw [bothJ_yes hc2]; exact yb) | (rw [bothJ_no hc2]; exact yb))⟩
 ·
  try simp only [yS] at hc1
  refine W_exit ?_
  refine W_seq ?_
  have hpf := (POK_bothJ h0 h1 hlr i hI).wf
  refine W_regl (fun w0 => ?_)
  refine yL (ov_load rfl rfl ye trivial rfl rfl tok31) ?_
  refine LO_l rfl trivial (ol_sw1 rfl rfl rfl rfl yf tok31 ?_)
  refine LO_nil ?_
  refine W_ret ?_
  refine ⟨trivial, yb, (ResV_cell rfl rfl ye rfl tok31 ?_)⟩
  exact val_enc (by rw [show i = 8 by omega])

theorem c_rules_Start (M : List Fact) : Pure Tryz.prog 25 [.int .u8 0] M (.tuple #[enc posT startP, .bool true]) := by
 have hsw := startP_ok.wf
 refine pure_of_W (n := 19) Tryz.func25 rfl rfl yn ?_
 refine W_seq (W_regl fun w0 => ?_)
 refine LO_l rfl (by decide : 2 < 19) (ol_alloc (t := posT) rfl tok31 yf (fun b1 => ?_))
 refine zA ?_
 refine LO_nil ?_
 refine W_seq ?_
 refine W_block ?_
 refine W_seq (W_reg ?_)
 refine yM ?_
 refine yR (ov_geq rfl rfl rfl) ?_
 refine yA_ ?_
 refine RO_nil ?_
 refine W_condf rfl ?_
 refine W_seq (W_reg ?_)
 refine yM ?_
 refine yR (ov_eql rfl rfl rfl) ?_
 refine yA_ ?_
 refine RO_nil ?_
 refine W_condf rfl ?_
 refine W_seq (W_reg ?_)
 refine yM ?_
 refine yR (ov_eql rfl rfl rfl) ?_
 refine yA_ ?_
 refine RO_nil ?_
 refine W_condf rfl ?_
 refine W_skip ?_
 refine W_seq (W_regl fun w0 => ?_)
 refine zM ?_
 refine yQ (yV rfl rfl rfl Tryz.call66 (by apply c_rules_chess <;> exact yz)) ?_
 refine yQ (yV rfl rfl rfl Tryz.call65 (c_rules_both 0 chessL _ yd yd rfl chess_rng)) ?_
 refine LO_l rfl trivial (ol_sw0 rfl rfl rfl rfl yf tok31 ?_)
 refine zA ?_
 refine LO_nil ?_
 refine W_ret ?_
 refine ⟨trivial, yb, (ResV_cell_tmp rfl rfl ye rfl tok31 rfl ?_)⟩
 rfl
end Go.Kw
set_option linter.unusedVariables false
set_option linter.unusedSimpArgs false
namespace Go.Kw
open Go.Proofs


def thereR (p : Pos) : Bool := decide (vr p < 9) && decide (tu p < 2)
def emptyR (p : Pos) (s : Int) : Bool := decide (kind (pb p s) = 0)
def ownR (p : Pos) (s c : Int) : Bool := !emptyR p s && decide (pb p s / 8 = c)
def upR (c : Int) : Int := if c = 0 then 8 else -8
theorem upR_val (c : Int) : upR c = 8 ∨ upR c = -8 := by unfold upR; split <;> simp
def rankR (c s : Int) : Int := if c = 0 then s / 8 else 7 - s / 8
def pawnR (p : Pos) (a b : Int) : Bool :=
  if hits p a b = true then ownR p b (1 - tu p) || decide (pg p = b)
  else if decide (b = a + upR (tu p)) = true then emptyR p b
  else ((decide (b = a + 2 * upR (tu p)) && (decide (rankR (tu p) a = 1) || ((decide (rankR (tu p) a = 0) && decide (vr p = 7)) && decide (tu p = 0)))) && emptyR p (a + upR (tu p))) && emptyR p b
def mayR (p : Pos) (a b : Int) : Bool :=
  if ((decide (a = b) || !ownR p a (tu p)) || ownR p b (tu p)) = true then false
  else if decide (kind (pb p a) = 1) = true then pawnR p a b
  else if decide (kind (pb p a) = 6) = true then hits p a b && (!decide (vr p = 3) || emptyR p b)
  else hits p a b
theorem there_tu {p : Pos} (h : (!thereR p) = false) : tu p ≤ 1 := by
  have : thereR p = true := by simpa using h
  have := of_decide_eq_true (Bool.and_eq_true_iff.1 this).2
  omega
def oneR (p : Pos) (a b : Int) : Bool := !decide (kind (pb p a) = 1) || !decide (rankR (tu p) b = 7)
def mvR (a b : Int) : Mv := (a, b, (0 : Int), (0 : Int), false, ())
def mvsR (p : Pos) (a b : Int) : List Mv := if mayR p a b = true then (if oneR p a b = true then [mvR a b] else (show List Int from promP (vr p)).map (setProm (mvR a b))) else []
def rowR (p : Pos) (a : Int) (j : Nat) : List Mv := (List.range j).flatMap fun b : Nat => mvsR p a (b : Int)
def listI (p : Pos) (i : Nat) : List Mv := (List.range i).flatMap fun a : Nat => rowR p (a : Int) 64
def listJ (p : Pos) (i j : Nat) : List Mv := listI p i ++ rowR p (i : Int) j
def listK (p : Pos) (i j kq : Nat) : List Mv := listJ p i j ++ ((show List Int from promP (vr p)).take kq).map (setProm (mvR (i : Int) (j : Int)))
def list13 (p : Pos) : List Mv := if (!thereR p) = true then [] else listI p 64
theorem list13_n {p : Pos} (h : (!thereR p) = true) : list13 p = [] := by unfold list13; rw [if_pos h]
theorem list13_y {p : Pos} (h : (!thereR p) = false) : list13 p = listI p 64 := by unfold list13; rw [if_neg xawy]
theorem range_flat {α : Type} (f : Nat → List α) (n : Nat) : (List.range (n + 1)).flatMap f = (List.range n).flatMap f ++ f n := by
  rw [List.range_succ, List.flatMap_append]; simp
theorem listJ_0 (p : Pos) (i : Nat) : listJ p i 0 = listI p i := by unfold listJ rowR; simp
theorem listJ_next (p : Pos) (i j : Nat) : listJ p i (j + 1) = listJ p i j ++ mvsR p (i : Int) (j : Int) := by
  unfold listJ rowR; rw [range_flat, List.append_assoc]
theorem listJ_64 (p : Pos) (i j : Nat) (h : j = 64) : listJ p i j = listI p (i + 1) := by
  subst h; unfold listJ listI; rw [range_flat]
theorem listJ_no (p : Pos) (i j : Nat) (h : mayR p (i : Int) (j : Int) = false) : listJ p i (j + 1) = listJ p i j := by
  rw [listJ_next, mvsR, if_neg xawy]; exact List.append_nil _
theorem listJ_one (p : Pos) (i j : Nat) (h : mayR p (i : Int) (j : Int) = true) (h2 : oneR p (i : Int) (j : Int) = true) : listJ p i (j + 1) = listJ p i j ++ [mvR (i : Int) (j : Int)] := by
  rw [listJ_next, mvsR, if_pos h, if_pos h2]
theorem listJ_many (p : Pos) (i j kq : Nat) (h : mayR p (i : Int) (j : Int) = true) (h2 : oneR p (i : Int) (j : Int) = false) (hk : (promP (vr p)).length ≤ kq) : listJ p i (j + 1) = listK p i j kq := by
  rw [listJ_next, mvsR, if_pos h, if_neg (by rw [h2]; simp)]
  unfold listK
  have e : (show List Int from promP (vr p)).take kq = promP (vr p) := List.take_of_length_le hk
  rw [e]
theorem listK_0 (p : Pos) (i j : Nat) : listK p i j 0 = listJ p i j := by unfold listK; simp
theorem listK_next (p : Pos) (i j kq : Nat) (h : kq < (promP (vr p)).length) : listK p i j (kq + 1) = listK p i j kq ++ [setProm (mvR (i : Int) (j : Int)) ((promP (vr p)).getD ((kq : Nat) : Int).toNat (zero u8))] := by
  have key : ∀ (l : List Int) (A : List Mv) (m : Mv), kq < l.length → A ++ (l.take (kq + 1)).map (setProm m) = (A ++ (l.take kq).map (setProm m)) ++ [setProm m (l.getD kq 0)] := fun l A m hl => by
    rw [List.getD_eq_getElem?_getD, List.getElem?_eq_getElem hl, List.append_assoc, List.map_take, List.map_take, List.take_add_one, List.getElem?_map, List.getElem?_eq_getElem hl]; rfl
  exact key _ _ _ h
theorem mvsR_len (p : Pos) (a b : Int) : (mvsR p a b).length ≤ 5 := by
  unfold mvsR; split
  · split
    · exact Nat.le_of_ble_eq_true rfl
    · rw [List.length_map]; exact prom_len _
  · exact Nat.zero_le _
theorem range_len {α : Type} (f : Nat → List α) (c : Nat) (hf : ∀ x, (f x).length ≤ c) : ∀ n, ((List.range n).flatMap f).length ≤ n * c
  | 0 => by simp
  | n + 1 => by
    have h1 := range_len f c hf n
    have h2 := hf n
    rw [range_flat, List.length_append, Nat.add_mul]; omega
theorem rowR_len (p : Pos) (a : Int) (j : Nat) : (rowR p a j).length ≤ j * 5 := range_len _ 5 (fun b => mvsR_len p a _) j
theorem listI_len (p : Pos) (i : Nat) : (listI p i).length ≤ i * 320 := range_len _ 320 (fun a => rowR_len p _ 64) i
theorem listJ_len (p : Pos) (i j : Nat) (hi : i ≤ 64) (hj : j ≤ 64) : (listJ p i j).length ≤ 20800 := by
  have h1 := listI_len p i
  have h2 := rowR_len p (i : Int) j
  unfold listJ; rw [List.length_append]; omega
theorem listK_len (p : Pos) (i j kq : Nat) (hi : i ≤ 64) (hj : j ≤ 64) : (listK p i j kq).length ≤ 20900 := by
  have h1 := listJ_len p i j hi hj
  have h2 := prom_len (vr p)
  have h3 : ((show List Int from promP (vr p)).take kq).length ≤ 5 := Nat.le_trans (List.length_take_le' _ _) h2
  unfold listK; rw [List.length_append, List.length_map]; omega

theorem c_ref07_Castles (v : Int) (M : List Fact) (h0 : 0 ≤ v) : Pure Tryz.prog 87 [.int .u8 v] M (.bool (castlesP v)) := by
 refine pure_of_W (n := 13) Tryz.func87 rfl rfl yn ?_
 refine W_seq (W_reg ?_)
 refine yA_ ?_
 refine RO_nil ?_
 refine W_seq (W_reg ?_)
 refine yM ?_
 refine yR (ov_lss rfl rfl rfl) ?_
 refine yM ?_
 refine yG (fun hg => OpX.v (ov_move rfl rfl)) ?_
 refine yG (fun hg => OpX.v (ov_neq rfl (look_gv rfl (bq hg)) rfl)) ?_
 refine yR (ov_and rfl rfl rfl rfl (fun h => bq h)) ?_
 refine yM ?_
 refine yG (fun hg => OpX.v (ov_move rfl rfl)) ?_
 refine yG (fun hg => OpX.v (ov_neq rfl (look_gv rfl (bq hg)) rfl)) ?_
 refine yR (ov_and rfl rfl rfl rfl (fun h => bq h)) ?_
 refine yA_ ?_
 refine RO_nil ?_
 refine W_ret ?_
 refine ⟨trivial, yb, (ResV_tmp1 rfl rfl ?_)⟩
 exact val_bool (castles_val h0).symm

theorem c_ref07_Promotes (v : Int) (M : List Fact) : Con Tryz.prog 134 [.int .u8 v] M (fun u M' => M' = .row u 5 u8 (promP v) :: M) := by
 refine con_of_W (n := 11) Tryz.func134 rfl rfl yn ?_
 refine W_seq (W_reg ?_)
 refine yA_ ?_
 refine RO_nil ?_
 refine W_seq ?_
 refine W_block ?_
 refine W_seq (W_reg ?_)
 refine yM ?_
 refine yR (ov_eql rfl rfl rfl) ?_
 refine yA_ ?_
 refine RO_nil ?_
 refine W_cond rfl (fun hc1 => ?_) (fun hc1 => ?_)
 ·
  try simp only [yS] at hc1
  refine W_seq (W_regl fun w0 => ?_)
  refine LO_l rfl (by decide : 6 < 11) (ol_buildSlice (t := u8) (xs := [_, _, _, _, _]) rfl rfl rfl Tryz.underlying43 tok5 xafy yd yd yd (fun v1 => ?_))
  refine zA ?_
  refine LO_nil ?_
  refine W_ret ?_
  refine ⟨trivial, _, .row _ 5 u8 (promP v) :: M, (ResV_tmp1 rfl rfl rfl), ?_, rfl⟩
  exact xboy
 ·
  try simp only [yS] at hc1
  refine W_seq (W_reg ?_)
  refine yM ?_
  refine yR (ov_lss rfl rfl rfl) ?_
  refine yA_ ?_
  refine RO_nil ?_
  refine W_cond rfl (fun hc2 => ?_) (fun hc2 => ?_)
  ·
   try simp only [yS] at hc2
   refine W_seq (W_regl fun w0 => ?_)
   refine LO_l rfl (by decide : 10 < 11) (ol_buildSlice (t := u8) (xs := [_, _, _, _]) rfl rfl rfl Tryz.underlying43 tok5 xafy yd yd yd (fun v2 => ?_))
   refine zA ?_
   refine LO_nil ?_
   refine W_ret ?_
   refine ⟨trivial, _, .row _ 5 u8 (promP v) :: M, (ResV_tmp1 rfl rfl rfl), ?_, rfl⟩
   exact xboy
  ·
   try simp only [yS] at hc2
   refine W_skip ?_
   refine W_seq ?_
   refine W_row 5 u8 ?_
   refine W_reg ?_
   refine yA_ ?_
   refine RO_nil ?_
   refine W_ret ?_
   refine ⟨trivial, _, .row _ 5 u8 (promP v) :: M, (ResV_tmp1 rfl rfl rfl), ?_, rfl⟩
   exact xboy

theorem c_ref13_There (p : Pos) (hp : POK p) (M : List Fact) : Pure Tryz.prog 23 [enc posT p] M (.bool (thereR p)) := by
 have hb := hp.board
 have hpw := hp.wf
 have hvr := hp.vr
 have htu := hp.tu
 have hpg := hp.pg
 have hvr0 := hp.vr
 have htu0 := hp.tu
 simp only [vr] at hvr0
 simp only [tu] at htu0
 refine pure_of_W (n := 11) Tryz.func23 rfl rfl yn ?_
 refine W_seq (W_regl fun w0 => ?_)
 refine LO_l rfl (by decide : 1 < 11) (ol_box (t := posT) rfl rfl rfl yf (fun b1 => ?_))
 refine zA ?_
 refine LO_nil ?_
 refine W_seq (W_reg ?_)
 refine yR (ov_fieldAddr rfl rfl fa31_0 rfl) ?_
 refine yR (ov_load rfl rfl ye ⟨trivial, yn⟩ rfl rfl tok5) ?_
 refine yR (ov_lss rfl rfl rfl) ?_
 refine yM ?_
 refine yG (fun hg => OpX.v (ov_fieldAddr rfl rfl fa31_4 rfl)) ?_
 refine yG (fun hg => OpX.v (ov_load rfl (look_gv rfl (bq hg)) ye ⟨trivial, yn⟩ rfl rfl tok5)) ?_
 refine yG (fun hg => OpX.v (ov_lss rfl (look_gv rfl (bq hg)) rfl)) ?_
 refine yR (ov_and rfl rfl rfl rfl (fun h => bq h)) ?_
 refine yA_ ?_
 refine RO_nil ?_
 refine W_ret ?_
 refine ⟨trivial, yb, (ResV_tmp1 rfl rfl ?_)⟩
 rfl

theorem c_ref13_Empty (p : Pos) (hp : POK p) (s : Int) (M : List Fact) (h0 : 0 ≤ s) (h1 : s < 64) : Pure Tryz.prog 155 [enc posT p, .int .i64 s] M (.bool (emptyR p s)) := by
 have hb := hp.board
 have hpw := hp.wf
 have hvr := hp.vr
 have htu := hp.tu
 have hpg := hp.pg
 have hvr0 := hp.vr
 have htu0 := hp.tu
 simp only [vr] at hvr0
 simp only [tu] at htu0
 refine pure_of_W (n := 11) Tryz.func155 rfl rfl yn ?_
 refine W_seq (W_regl fun w0 => ?_)
 refine LO_l rfl (by decide : 2 < 11) (ol_box (t := posT) rfl rfl rfl yf (fun b1 => ?_))
 refine zA ?_
 refine LO_nil ?_
 refine W_seq (W_reg ?_)
 refine yM ?_
 refine yR (ov_fieldAddr rfl rfl fa31_1 rfl) ?_
 refine yR (ov_indexAddr rfl rfl rfl Tryz.underlying22 rfl Tryz.sizeOf5 ya ya) ?_
 refine yR (ov_load rfl rfl ye ⟨⟨trivial, yn⟩, (tn ya ya)⟩ rfl rfl tok5) ?_
 refine yP (yV rfl rfl rfl Tryz.call84 xaqy) ?_
 refine yR (ov_eql rfl rfl rfl) ?_
 refine yA_ ?_
 refine RO_nil ?_
 refine W_ret ?_
 refine ⟨trivial, yb, (ResV_tmp1 rfl rfl ?_)⟩
 rfl

theorem c_ref13_Own (p : Pos) (hp : POK p) (s c : Int) (M : List Fact) (h0 : 0 ≤ s) (h1 : s < 64) : Pure Tryz.prog 153 [enc posT p, .int .i64 s, .int .u8 c] M (.bool (ownR p s c)) := by
 have hb := hp.board
 have hpw := hp.wf
 have hvr := hp.vr
 have htu := hp.tu
 have hpg := hp.pg
 have hvr0 := hp.vr
 have htu0 := hp.tu
 simp only [vr] at hvr0
 simp only [tu] at htu0
 refine pure_of_W (n := 20) Tryz.func153 rfl rfl yn ?_
 refine W_seq (W_regl fun w0 => ?_)
 refine LO_l rfl (by decide : 3 < 20) (ol_box (t := posT) rfl rfl rfl yf (fun b1 => ?_))
 refine zA ?_
 refine LO_nil ?_
 refine W_seq (W_reg ?_)
 refine yR (ov_load rfl rfl ye trivial rfl rfl tok31) ?_
 refine yM ?_
 refine yP (yV rfl rfl rfl Tryz.call155 (by apply c_ref13_Empty <;> exact yz)) ?_
 refine yR (ov_not rfl rfl) ?_
 refine yM ?_
 refine yG (fun hg => OpX.v (ov_move rfl rfl)) ?_
 refine yG (fun hg => OpX.v (ov_fieldAddr rfl rfl fa31_1 rfl)) ?_
 refine yG (fun hg => OpX.v (ov_indexAddr rfl (look_gv rfl (bq hg)) (look_gv rfl (bq hg)) Tryz.underlying22 rfl Tryz.sizeOf5 ya ya)) ?_
 refine yG (fun hg => OpX.v (ov_load rfl (look_gv rfl (bq hg)) ye ⟨⟨trivial, yn⟩, (tn ya ya)⟩ rfl rfl tok5)) ?_
 refine yG (fun hg => yV rfl rfl (looks_cons (look_gv rfl (bq hg)) looks_nil) Tryz.call131 (by apply c_ref08_Color <;> exact yz)) ?_
 refine yG (fun hg => OpX.v (ov_move rfl rfl)) ?_
 refine yG (fun hg => OpX.v (ov_eql rfl (look_gv rfl (bq hg)) (look_gv rfl (bq hg)))) ?_
 refine yR (ov_and rfl rfl rfl rfl (fun h => bq h)) ?_
 refine yA_ ?_
 refine RO_nil ?_
 refine W_ret ?_
 refine ⟨trivial, yb, (ResV_tmp1 rfl rfl ?_)⟩
 rfl

theorem c_ref13_Up (c : Int) (M : List Fact) : Pure Tryz.prog 156 [.int .u8 c] M (.int .i64 (upR c)) := by
 refine pure_of_W (n := 5) Tryz.func156 rfl rfl yn ?_
 refine W_seq (W_reg ?_)
 refine yA_ ?_
 refine RO_nil ?_
 refine W_seq ?_
 refine W_seq (W_reg ?_)
 refine yM ?_
 refine yR (ov_eql rfl rfl rfl) ?_
 refine RO_nil ?_
 refine W_cond rfl (fun hc1 => ?_) (fun hc1 => ?_)
 ·
  try simp only [yS] at hc1
  refine W_seq (W_reg ?_)
  refine yA_ ?_
  refine RO_nil ?_
  refine W_ret ?_
  refine ⟨trivial, yb, (ResV_tmp1 rfl rfl ?_)⟩
  exact val_int (by unfold upR; first | exact (if_pos xaky).symm | exact (if_neg xaky).symm)
 ·
  try simp only [yS] at hc1
  refine W_skip ?_
  refine W_seq (W_reg ?_)
  refine yA_ ?_
  refine RO_nil ?_
  refine W_ret ?_
  refine ⟨trivial, yb, (ResV_tmp1 rfl rfl ?_)⟩
  exact val_int (by unfold upR; first | exact (if_pos xaky).symm | exact (if_neg xaky).symm)

theorem c_ref13_Rank (c s : Int) (M : List Fact) (h0 : 0 ≤ s) (h1 : s < 64) : Pure Tryz.prog 133 [.int .u8 c, .int .i64 s] M (.int .i64 (rankR c s)) := by
 refine pure_of_W (n := 12) Tryz.func133 rfl rfl yn ?_
 refine W_seq (W_reg ?_)
 refine yA_ ?_
 refine RO_nil ?_
 refine W_seq ?_
 refine W_seq (W_reg ?_)
 refine yM ?_
 refine yR (ov_eql rfl rfl rfl) ?_
 refine RO_nil ?_
 refine W_cond rfl (fun hc1 => ?_) (fun hc1 => ?_)
 ·
  try simp only [yS] at hc1
  refine W_seq (W_reg ?_)
  refine yM ?_
  refine yR (ov_quo_pos rfl rfl rfl ya ya ya) ?_
  refine yA_ ?_
  refine RO_nil ?_
  refine W_ret ?_
  refine ⟨trivial, yb, (ResV_tmp1 rfl rfl ?_)⟩
  exact val_int (by unfold rankR; first | exact (if_pos xaky).symm | exact (if_neg xaky).symm)
 ·
  try simp only [yS] at hc1
  refine W_skip ?_
  refine W_seq (W_reg ?_)
  refine yM ?_
  refine yR (ov_quo_pos rfl rfl rfl ya ya ya) ?_
  refine yR (ov_sub rfl rfl rfl ya) ?_
  refine yA_ ?_
  refine RO_nil ?_
  refine W_ret ?_
  refine ⟨trivial, yb, (ResV_tmp1 rfl rfl ?_)⟩
  exact val_int (by unfold rankR; first | exact (if_pos xaky).symm | exact (if_neg xaky).symm)

theorem c_ref13_pawn (p : Pos) (hp : POK p) (a b : Int) (M : List Fact) (ht : tu p ≤ 1) (h0 : 0 ≤ a) (h1 : a < 64) (h2 : 0 ≤ b) (h3 : b < 64) : Pure Tryz.prog 177 [enc posT p, .int .i64 a, .int .i64 b] M (.bool (pawnR p a b)) := by
 have hb := hp.board
 have hpw := hp.wf
 have hvr := hp.vr
 have htu := hp.tu
 have hpg := hp.pg
 have hvr0 := hp.vr
 have htu0 := hp.tu
 simp only [vr] at hvr0
 simp only [tu] at htu0
 have ht2 := ht
 simp only [tu] at ht2
 have hpg0 := hp.pg
 simp only [pg] at hpg0
 have hup := upR_val (tu p)
 have hup0 : upR p.2.2.2.2.1 = 8 ∨ upR p.2.2.2.2.1 = -8 := hup
 refine pure_of_W (n := 79) Tryz.func177 rfl rfl yn ?_
 refine W_seq (W_regl fun w0 => ?_)
 refine LO_l rfl (by decide : 3 < 79) (ol_box (t := posT) rfl rfl rfl yf (fun b1 => ?_))
 refine zA ?_
 refine LO_nil ?_
 refine W_seq (W_reg ?_)
 refine yR (ov_fieldAddr rfl rfl fa31_4 rfl) ?_
 refine yR (ov_load rfl rfl ye ⟨trivial, yn⟩ rfl rfl tok5) ?_
 refine yP (yV rfl rfl rfl Tryz.call156 (by apply c_ref13_Up <;> exact yz)) ?_
 refine yA_ ?_
 refine RO_nil ?_
 refine W_seq ?_
 refine W_seq (W_reg ?_)
 refine yR (ov_load rfl rfl ye trivial rfl rfl tok31) ?_
 refine yM ?_
 refine yM ?_
 refine yP (yV rfl rfl rfl Tryz.call90 (by apply c_ref08_Hits <;> exact yz)) ?_
 refine RO_nil ?_
 refine W_cond rfl (fun hc1 => ?_) (fun hc1 => ?_)
 ·
  refine W_seq (W_reg ?_)
  refine yR (ov_load rfl rfl ye trivial rfl rfl tok31) ?_
  refine yM ?_
  refine yR (ov_fieldAddr rfl rfl fa31_4 rfl) ?_
  refine yR (ov_load rfl rfl ye ⟨trivial, yn⟩ rfl rfl tok5) ?_
  refine yR (ov_sub rfl rfl rfl ya) ?_
  refine yP (yV rfl rfl rfl Tryz.call153 (by apply c_ref13_Own <;> exact yz)) ?_
  refine yM ?_
  refine yG (fun hg => OpX.v (ov_fieldAddr rfl rfl fa31_6 rfl)) ?_
  refine yG (fun hg => OpX.v (ov_load rfl (look_gv rfl (bq hg)) ye ⟨trivial, yn⟩ rfl rfl tok26)) ?_
  refine yG (fun hg => OpX.v (ov_convn rfl (look_gv rfl (bq hg)) Tryz.underlying26 Tryz.underlying3 ya)) ?_
  refine yG (fun hg => OpX.v (ov_move rfl rfl)) ?_
  refine yG (fun hg => OpX.v (ov_eql rfl (look_gv rfl (bq hg)) (look_gv rfl (bq hg)))) ?_
  refine yR (ov_or rfl rfl rfl rfl (fun h => bq h)) ?_
  refine yA_ ?_
  refine RO_nil ?_
  refine W_ret ?_
  refine ⟨trivial, yb, (ResV_tmp1 rfl rfl ?_)⟩
  exact xbpy
 ·
  refine W_skip ?_
  refine W_seq ?_
  refine W_seq (W_reg ?_)
  refine yM ?_
  refine yM ?_
  refine yM ?_
  refine yR (ov_add rfl rfl rfl ya) ?_
  refine yR (ov_eql rfl rfl rfl) ?_
  refine RO_nil ?_
  refine W_cond rfl (fun hc2 => ?_) (fun hc2 => ?_)
  ·
   refine W_seq (W_reg ?_)
   refine yR (ov_load rfl rfl ye trivial rfl rfl tok31) ?_
   refine yM ?_
   refine yP (yV rfl rfl rfl Tryz.call155 (by apply c_ref13_Empty <;> exact yz)) ?_
   refine yA_ ?_
   refine RO_nil ?_
   refine W_ret ?_
   refine ⟨trivial, yb, (ResV_tmp1 rfl rfl ?_)⟩
   exact xbpy
  ·
   refine W_skip ?_
   refine W_seq (W_reg ?_)
   refine yR (ov_fieldAddr rfl rfl fa31_4 rfl) ?_
   refine yR (ov_load rfl rfl ye ⟨trivial, yn⟩ rfl rfl tok5) ?_
   refine yM ?_
   refine yP (yV rfl rfl rfl Tryz.call133 (by apply c_ref13_Rank <;> exact yz)) ?_
   refine yA_ ?_
   refine RO_nil ?_
   refine W_seq (W_reg ?_)
   refine yM ?_
   refine yR (ov_eql rfl rfl rfl) ?_
   refine yM ?_
   refine yG (fun hg => OpX.v (ov_move rfl rfl)) ?_
   refine yG (fun hg => OpX.v (ov_eql rfl (look_gv rfl (bq hg)) rfl)) ?_
   refine yG (fun hg => OpX.v (ov_move rfl (look_gv rfl (bq hg)))) ?_
   refine RO_g rfl rfl rfl rfl rfl yd (fun hg1 hg2 => OpX.v (ov_fieldAddr rfl rfl fa31_0 rfl)) ?_
   refine RO_g rfl rfl rfl rfl rfl yd (fun hg1 hg2 => OpX.v (ov_load rfl (look_gv rfl (bq2 hg1 hg2)) ye ⟨trivial, yn⟩ rfl rfl tok5)) ?_
   refine RO_g rfl rfl rfl rfl rfl yd (fun hg1 hg2 => OpX.v (ov_eql rfl (look_gv rfl (bq2 hg1 hg2)) rfl)) ?_
   refine yG (fun hg => OpX.v (ov_and rfl (look_gv rfl (bq hg)) rfl rfl (fun h => bq2 (bq hg) h))) ?_
   refine yG (fun hg => OpX.v (ov_move rfl (look_gv rfl (bq hg)))) ?_
   refine RO_g rfl rfl rfl rfl rfl yd (fun hg1 hg2 => OpX.v (ov_fieldAddr rfl rfl fa31_4 rfl)) ?_
   refine RO_g rfl rfl rfl rfl rfl yd (fun hg1 hg2 => OpX.v (ov_load rfl (look_gv rfl (bq2 hg1 hg2)) ye ⟨trivial, yn⟩ rfl rfl tok5)) ?_
   refine RO_g rfl rfl rfl rfl rfl yd (fun hg1 hg2 => OpX.v (ov_eql rfl (look_gv rfl (bq2 hg1 hg2)) rfl)) ?_
   refine yG (fun hg => OpX.v (ov_and rfl (look_gv rfl (bq hg)) rfl rfl (fun h => bq2 (bq hg) h))) ?_
   refine yR (ov_or rfl rfl rfl rfl (fun h => bq h)) ?_
   refine yA_ ?_
   refine RO_nil ?_
   refine W_seq (W_reg ?_)
   refine yM ?_
   refine yM ?_
   refine yM ?_
   refine yR (ov_mul rfl rfl rfl ya) ?_
   refine yR (ov_add rfl rfl rfl ya) ?_
   refine yR (ov_eql rfl rfl rfl) ?_
   refine yM ?_
   refine yG (fun hg => OpX.v (ov_move rfl rfl)) ?_
   refine yR (ov_and rfl rfl rfl rfl (fun h => bq h)) ?_
   refine yM ?_
   refine yG (fun hg => OpX.v (ov_load rfl rfl ye trivial rfl rfl tok31)) ?_
   refine yG (fun hg => OpX.v (ov_move rfl rfl)) ?_
   refine yG (fun hg => OpX.v (ov_move rfl rfl)) ?_
   refine RO_g1 rfl rfl rfl rfl rfl yd (fun hg => by have hgx := hg; (try simp only [yS] at hgx); exact OpX.v (ov_add rfl (look_gv rfl (bq hg)) (look_gv rfl (bq hg)) ya)) ?_
   refine RO_g1 rfl rfl rfl rfl rfl yd (fun hg => by have hgx := hg; (try simp only [yS] at hgx); exact yV rfl rfl (looks_cons (look_gv rfl (bq hg)) (looks_cons (look_gv rfl (bq hg)) looks_nil)) Tryz.call155 (by apply c_ref13_Empty <;> exact yz)) ?_
   refine yR (ov_and rfl rfl rfl rfl (fun h => bq h)) ?_
   refine yM ?_
   refine yG (fun hg => OpX.v (ov_load rfl rfl ye trivial rfl rfl tok31)) ?_
   refine yG (fun hg => OpX.v (ov_move rfl rfl)) ?_
   refine yG (fun hg => yV rfl rfl (looks_cons (look_gv rfl (bq hg)) (looks_cons (look_gv rfl (bq hg)) looks_nil)) Tryz.call155 (by apply c_ref13_Empty <;> exact yz)) ?_
   refine yR (ov_and rfl rfl rfl rfl (fun h => bq h)) ?_
   refine yA_ ?_
   refine RO_nil ?_
   refine W_ret ?_
   refine ⟨trivial, yb, (ResV_tmp1 rfl rfl ?_)⟩
   exact xbpy

theorem c_ref13_May (p : Pos) (hp : POK p) (a b : Int) (M : List Fact) (ht : tu p ≤ 1) (h0 : 0 ≤ a) (h1 : a < 64) (h2 : 0 ≤ b) (h3 : b < 64) : Pure Tryz.prog 132 [enc posT p, .int .i64 a, .int .i64 b] M (.bool (mayR p a b)) := by
 have hb := hp.board
 have hpw := hp.wf
 have hvr := hp.vr
 have htu := hp.tu
 have hpg := hp.pg
 have hvr0 := hp.vr
 have htu0 := hp.tu
 simp only [vr] at hvr0
 simp only [tu] at htu0
 have ht2 := ht
 simp only [tu] at ht2
 refine pure_of_W (n := 56) Tryz.func132 rfl rfl yn ?_
 refine W_seq (W_regl fun w0 => ?_)
 refine LO_l rfl (by decide : 3 < 56) (ol_box (t := posT) rfl rfl rfl yf (fun b1 => ?_))
 refine zA ?_
 refine LO_nil ?_
 refine W_seq ?_
 refine W_seq (W_reg ?_)
 refine yM ?_
 refine yM ?_
 refine yR (ov_eql rfl rfl rfl) ?_
 refine yM ?_
 refine yG (fun hg => OpX.v (ov_load rfl rfl ye trivial rfl rfl tok31)) ?_
 refine yG (fun hg => OpX.v (ov_move rfl rfl)) ?_
 refine yG (fun hg => OpX.v (ov_fieldAddr rfl rfl fa31_4 rfl)) ?_
 refine yG (fun hg => OpX.v (ov_load rfl (look_gv rfl (bq hg)) ye ⟨trivial, yn⟩ rfl rfl tok5)) ?_
 refine yG (fun hg => yV rfl rfl (looks_cons (look_gv rfl (bq hg)) (looks_cons (look_gv rfl (bq hg)) (looks_cons (look_gv rfl (bq hg)) looks_nil))) Tryz.call153 (by apply c_ref13_Own <;> exact yz)) ?_
 refine yG (fun hg => OpX.v (ov_not rfl (look_gv rfl (bq hg)))) ?_
 refine yR (ov_or rfl rfl rfl rfl (fun h => bq h)) ?_
 refine yM ?_
 refine yG (fun hg => OpX.v (ov_load rfl rfl ye trivial rfl rfl tok31)) ?_
 refine yG (fun hg => OpX.v (ov_move rfl rfl)) ?_
 refine yG (fun hg => OpX.v (ov_fieldAddr rfl rfl fa31_4 rfl)) ?_
 refine yG (fun hg => OpX.v (ov_load rfl (look_gv rfl (bq hg)) ye ⟨trivial, yn⟩ rfl rfl tok5)) ?_
 refine yG (fun hg => yV rfl rfl (looks_cons (look_gv rfl (bq hg)) (looks_cons (look_gv rfl (bq hg)) (looks_cons (look_gv rfl (bq hg)) looks_nil))) Tryz.call153 (by apply c_ref13_Own <;> exact yz)) ?_
 refine yR (ov_or rfl rfl rfl rfl (fun h => bq h)) ?_
 refine RO_nil ?_
 refine W_cond rfl (fun hc1 => ?_) (fun hc1 => ?_)
 ·
  refine W_seq (W_reg ?_)
  refine yA_ ?_
  refine RO_nil ?_
  refine W_ret ?_
  refine ⟨trivial, yb, (ResV_tmp1 rfl rfl ?_)⟩
  exact xbqy
 ·
  refine W_skip ?_
  refine W_seq ?_
  refine W_seq (W_reg ?_)
  refine yM ?_
  refine yR (ov_fieldAddr rfl rfl fa31_1 rfl) ?_
  refine yR (ov_indexAddr rfl rfl rfl Tryz.underlying22 rfl Tryz.sizeOf5 ya ya) ?_
  refine yR (ov_load rfl rfl ye ⟨⟨trivial, yn⟩, (tn ya ya)⟩ rfl rfl tok5) ?_
  refine yP (yV rfl rfl rfl Tryz.call84 xaqy) ?_
  refine RO_nil ?_
  refine W_block ?_
  refine W_seq (W_reg ?_)
  refine yR (ov_eql rfl rfl rfl) ?_
  refine yA_ ?_
  refine RO_nil ?_
  refine W_cond rfl (fun hc2 => ?_) (fun hc2 => ?_)
  ·
   refine W_seq (W_reg ?_)
   refine yR (ov_load rfl rfl ye trivial rfl rfl tok31) ?_
   refine yM ?_
   refine yM ?_
   refine yP (yV rfl rfl rfl Tryz.call177 (by apply c_ref13_pawn <;> exact yz)) ?_
   refine yA_ ?_
   refine RO_nil ?_
   refine W_ret ?_
   refine ⟨trivial, yb, (ResV_tmp1 rfl rfl ?_)⟩
   exact xbqy
  ·
   refine W_seq (W_reg ?_)
   refine yR (ov_eql rfl rfl rfl) ?_
   refine yA_ ?_
   refine RO_nil ?_
   refine W_cond rfl (fun hc3 => ?_) (fun hc3 => ?_)
   ·
    refine W_seq (W_reg ?_)
    refine yR (ov_load rfl rfl ye trivial rfl rfl tok31) ?_
    refine yM ?_
    refine yM ?_
    refine yP (yV rfl rfl rfl Tryz.call90 (by apply c_ref08_Hits <;> exact yz)) ?_
    refine yM ?_
    refine yG (fun hg => OpX.v (ov_fieldAddr rfl rfl fa31_0 rfl)) ?_
    refine yG (fun hg => OpX.v (ov_load rfl (look_gv rfl (bq hg)) ye ⟨trivial, yn⟩ rfl rfl tok5)) ?_
    refine yG (fun hg => OpX.v (ov_neq rfl (look_gv rfl (bq hg)) rfl)) ?_
    refine yG (fun hg => OpX.v (ov_move rfl (look_gv rfl (bq hg)))) ?_
    refine RO_g rfl rfl rfl rfl rfl yd (fun hg1 hg2 => OpX.v (ov_load rfl rfl ye trivial rfl rfl tok31)) ?_
    refine RO_g rfl rfl rfl rfl rfl yd (fun hg1 hg2 => OpX.v (ov_move rfl rfl)) ?_
    refine RO_g rfl rfl rfl rfl rfl yd (fun hg1 hg2 => yV rfl rfl (looks_cons (look_gv rfl (bq2 hg1 hg2)) (looks_cons (look_gv rfl (bq2 hg1 hg2)) looks_nil)) Tryz.call155 (by apply c_ref13_Empty <;> exact yz)) ?_
    refine yG (fun hg => OpX.v (ov_or rfl (look_gv rfl (bq hg)) rfl rfl (fun h => bq2 (bq hg) h))) ?_
    refine yR (ov_and rfl rfl rfl rfl (fun h => bq h)) ?_
    refine yA_ ?_
    refine RO_nil ?_
    refine W_ret ?_
    refine ⟨trivial, yb, (ResV_tmp1 rfl rfl ?_)⟩
    exact xbqy
   ·
    refine W_skip ?_
    refine W_seq (W_reg ?_)
    refine yR (ov_load rfl rfl ye trivial rfl rfl tok31) ?_
    refine yM ?_
    refine yM ?_
    refine yP (yV rfl rfl rfl Tryz.call90 (by apply c_ref08_Hits <;> exact yz)) ?_
    refine yA_ ?_
    refine RO_nil ?_
    refine W_ret ?_
    refine ⟨trivial, yb, (ResV_tmp1 rfl rfl ?_)⟩
    exact xbqy

theorem c_ref13_List (p : Pos) (hp : POK p) (M : List Fact) : Con Tryz.prog 60 [enc posT p] M (fun u M' => M' = .row u 55 moveT (list13 p) :: M) := by
 have hb := hp.board
 have hpw := hp.wf
 have hvr := hp.vr
 have htu := hp.tu
 have hpg := hp.pg
 have hvr0 := hp.vr
 have htu0 := hp.tu
 simp only [vr] at hvr0
 simp only [tu] at htu0
 have hpl := prom_len (vr p)
 refine con_of_W (n := 67) Tryz.func60 rfl rfl yn ?_
 refine W_seq (W_regl fun w0 => ?_)
 refine LO_l rfl (by decide : 1 < 67) (ol_box (t := posT) rfl rfl rfl yf (fun b1 => ?_))
 refine zA ?_
 refine LO_nil ?_
 refine W_seq ?_
 refine W_row 55 moveT ?_
 refine W_reg ?_
 refine yA_ ?_
 refine RO_nil ?_
 refine W_seq ?_
 refine W_seq (W_reg ?_)
 refine yR (ov_load rfl rfl ye trivial rfl rfl tok31) ?_
 refine yP (yV rfl rfl rfl Tryz.call23 (by apply c_ref13_There <;> exact yz)) ?_
 refine yR (ov_not rfl rfl) ?_
 refine RO_nil ?_
 refine W_cond rfl (fun hc1 => ?_) (fun hc1 => ?_)
 ·
  refine W_seq (W_reg ?_)
  refine yM ?_
  refine yA_ ?_
  refine RO_nil ?_
  refine W_ret ?_
  refine ⟨trivial, _, .row _ 55 moveT (list13 p) :: M, (ResV_tmp1 rfl rfl rfl), ?_, rfl⟩
  first | (rw [list13_n hc1]; exact yb) | (rw [list13_y hc1, show 64 = i by omega]; exact yb)
 ·
  have hth := there_tu hc1
  have hth0 := hth
  simp only [tu] at hth0
  refine W_skip ?_
  refine W_seq ?_
  refine W_seq (W_reg ?_)
  refine yA_ ?_
  refine RO_nil ?_
  refine W_block ?_
  refine W_loop (σ := Nat × Value) (fun s => s.1 ≤ 64) (fun s => [(1, ptrv b1 posT []), (4, .int .i64 (s.1 : Int)), (3, s.2)]) (fun s => .row s.2 55 moveT (listI p s.1) :: .box b1 31 posT p :: M) (fun s => 64 - s.1) ((0, .slice none 0 0)) (by simp) ⟨rfl, rfl, rfl, trivial⟩ yb ?_
  rintro ⟨i, v⟩ hI
  simp only at hI
  refine W_seq ?_
  refine W_seq (W_reg ?_)
  refine yM ?_
  refine yR (ov_lss rfl rfl rfl) ?_
  refine RO_nil ?_
  refine W_cond rfl (fun hc2 => ?_) (fun hc2 => ?_)
  ·
   try simp only [yS] at hc2
   refine W_skip ?_
   refine W_seq ?_
   refine W_block ?_
   refine W_seq (W_reg ?_)
   refine yA_ ?_
   refine RO_nil ?_
   refine W_block ?_
   refine W_loop (σ := Nat × Value) (fun s => s.1 ≤ 64) (fun s => [(1, ptrv b1 posT []), (4, .int .i64 (i : Int)), (5, .int .i64 (s.1 : Int)), (3, s.2)]) (fun s => .row s.2 55 moveT (listJ p i s.1) :: .box b1 31 posT p :: M) (fun s => 64 - s.1) ((0, v)) (by simp) ⟨rfl, rfl, rfl, rfl, trivial⟩ (by show List.Sublist (Fact.row v 55 moveT (listJ p i 0) :: _) _; rw [listJ_0]; exact yb) ?_
   rintro ⟨j, v6⟩ hJ
   simp only at hJ
   refine W_seq ?_
   refine W_seq (W_reg ?_)
   refine yM ?_
   refine yR (ov_lss rfl rfl rfl) ?_
   refine RO_nil ?_
   refine W_cond rfl (fun hc3 => ?_) (fun hc3 => ?_)
   ·
    try simp only [yS] at hc3
    have hij := listJ_len p i j yo yo
    refine W_skip ?_
    refine W_seq ?_
    refine W_block ?_
    refine W_seq ?_
    refine W_seq (W_reg ?_)
    refine yR (ov_load rfl rfl ye trivial rfl rfl tok31) ?_
    refine yM ?_
    refine yM ?_
    refine yP (yV rfl rfl rfl Tryz.call132 (by apply c_ref13_May <;> exact yz)) ?_
    refine yR (ov_not rfl rfl) ?_
    refine RO_nil ?_
    refine W_cond rfl (fun hc4 => ?_) (fun hc4 => ?_)
    ·
     refine W_exit ?_
     refine W_reg ?_
     refine yM ?_
     refine yR (ov_add rfl rfl rfl ya) ?_
     refine yA_ ?_
     refine RO_nil ?_
     exact ⟨(j + 1, _), xaly, xaly, ⟨rfl, rfl, rfl, rfl, trivial⟩, (by first | (rw [listJ_no p i j (by simpa using hc4)]; exact yb) | (rw [listJ_one p i j hmay hc5]; exact yb) | (rw [listJ_many p i j kq hmay hc5 yo]; exact yb))⟩
    ·
     have hmay : mayR p i j = true := by simpa using hc4
     refine W_skip ?_
     refine W_seq (W_regl fun w0 => ?_)
     refine zM ?_
     refine yL (ov_convn rfl rfl Tryz.underlying3 Tryz.underlying26 ya) ?_
     refine zM ?_
     refine yL (ov_convn rfl rfl Tryz.underlying3 Tryz.underlying26 ya) ?_
     refine yL (ov_build (fs := fs54) (ds := [⟨0, _⟩, ⟨1, _⟩]) rfl rfl bl55 ⟨yn, yf, ⟨yn, yf, trivial⟩⟩ rfl) ?_
     refine LO_l rfl (by decide : 6 < 67) (ol_alloc (t := moveT) rfl tok55 yf (fun b2 => ?_))
     refine LO_l rfl trivial (ol_sw0 rfl rfl rfl rfl yf tok55 ?_)
     refine LO_nil ?_
     refine W_seq ?_
     refine W_seq (W_reg ?_)
     refine yM ?_
     refine yR (ov_fieldAddr rfl rfl fa31_1 rfl) ?_
     refine yR (ov_indexAddr rfl rfl rfl Tryz.underlying22 rfl Tryz.sizeOf5 ya ya) ?_
     refine yR (ov_load rfl rfl ye ⟨⟨trivial, yn⟩, (tn ya ya)⟩ rfl rfl tok5) ?_
     refine yP (yV rfl rfl rfl Tryz.call84 xaqy) ?_
     refine yR (ov_neq rfl rfl rfl) ?_
     refine yM ?_
     refine yG (fun hg => OpX.v (ov_fieldAddr rfl rfl fa31_4 rfl)) ?_
     refine yG (fun hg => OpX.v (ov_load rfl (look_gv rfl (bq hg)) ye ⟨trivial, yn⟩ rfl rfl tok5)) ?_
     refine RO_g1 rfl rfl rfl rfl rfl yd (fun hg => by have hgx := hg; (try simp only [yS] at hgx); exact OpX.v (ov_move rfl rfl)) ?_
     refine RO_g1 rfl rfl rfl rfl rfl yd (fun hg => by have hgx := hg; (try simp only [yS] at hgx); exact yV rfl rfl (looks_cons (look_gv rfl (bq hg)) (looks_cons (look_gv rfl (bq hg)) looks_nil)) Tryz.call133 (by apply c_ref13_Rank <;> exact yz)) ?_
     refine yG (fun hg => OpX.v (ov_neq rfl (look_gv rfl (bq hg)) rfl)) ?_
     refine yR (ov_or rfl rfl rfl rfl (fun h => bq h)) ?_
     refine RO_nil ?_
     refine W_cond rfl (fun hc5 => ?_) (fun hc5 => ?_)
     ·
      refine W_seq (W_regl fun w0 => ?_)
      refine zM ?_
      refine yL (ov_load rfl rfl ye trivial rfl rfl tok55) ?_
      refine LO_l rfl (by decide : 46 < 67) (ol_buildSlice (t := moveT) (xs := [_]) rfl rfl rfl Tryz.underlying48 tok55 xafy yd yd yd (fun v1 => ?_))
      refine LO_l rfl (by decide : 47 < 67) (ol_ap2 (t := moveT) rfl rfl rfl xaby ap48 xahy xahy (fun v2 => ?_))
      refine zA ?_
      refine LO_nil ?_
      refine W_exit ?_
      refine W_reg ?_
      refine yM ?_
      refine yR (ov_add rfl rfl rfl ya) ?_
      refine yA_ ?_
      refine RO_nil ?_
      exact ⟨(j + 1, _), xaly, xaly, ⟨rfl, rfl, rfl, rfl, trivial⟩, (by first | (rw [listJ_no p i j (by simpa using hc4)]; exact yb) | (rw [listJ_one p i j hmay hc5]; exact yb) | (rw [listJ_many p i j kq hmay hc5 yo]; exact yb))⟩
     ·
      refine W_skip ?_
      refine W_seq (W_regl fun w0 => ?_)
      refine yL (ov_fieldAddr rfl rfl fa31_0 rfl) ?_
      refine yL (ov_load rfl rfl ye ⟨trivial, yn⟩ rfl rfl tok5) ?_
      refine LO_l rfl (by decide : 50 < 67) (ol_call (v0 := []) (v2 := []) rfl rfl rfl Tryz.call134 (Con.mono (by apply c_ref07_Promotes <;> exact yz) ?_))
      rintro vp _ rfl
      refine zA ?_
      refine LO_nil ?_
      refine W_seq (W_reg ?_)
      refine yA_ ?_
      refine RO_nil ?_
      refine W_block ?_
      refine W_loop (σ := Nat × Value) (fun s => s.1 ≤ (promP (vr p)).length) (fun s => [(1, ptrv b1 posT []), (4, .int .i64 (i : Int)), (5, .int .i64 (j : Int)), (6, ptrv b2 moveT []), (8, .int .i64 (s.1 : Int)), (7, vp), (3, s.2)]) (fun s => .row vp 5 u8 (promP (vr p)) :: .box b2 55 moveT (mAt ((i : Int), (j : Int), (0 : Int), (0 : Int), false, ()) (promP (vr p)) s.1) :: .row s.2 55 moveT (listK p i j s.1) :: .box b1 31 posT p :: M) (fun s => (promP (vr p)).length - s.1) ((0, v6)) (by simp) ⟨rfl, rfl, rfl, rfl, rfl, rfl, rfl, trivial⟩ (by show List.Sublist (_ :: _ :: Fact.row v6 55 moveT (listK p i j 0) :: _) _; rw [listK_0]; exact yb) ?_
      rintro ⟨kq, v7⟩ hK
      simp only at hK
      refine W_seq ?_
      refine W_seq (W_reg ?_)
      refine yM ?_
      refine yM ?_
      refine yR (ov_len rfl rfl xaby Tryz.underlying43) ?_
      refine yR (ov_lss rfl rfl rfl) ?_
      refine RO_nil ?_
      refine W_cond rfl (fun hc6 => ?_) (fun hc6 => ?_)
      ·
       try simp only [yS] at hc6
       have hkr := prom_rng (vr p) kq
       have hkl := listK_len p i j kq yo yo
       have hwm := wf_move (mAt ((i : Int), (j : Int), (0 : Int), (0 : Int), false, ()) (promP (vr p)) kq)
       have hkx : @LE.le Int _ 0 ((promP (vr p)).getD ((kq : Nat) : Int).toNat (zero u8)) ∧ @LE.le Int _ ((promP (vr p)).getD ((kq : Nat) : Int).toNat (zero u8)) 255 := hkr
       refine W_skip ?_
       refine W_seq ?_
       refine W_block ?_
       refine W_seq (W_regl fun w0 => ?_)
       refine zM ?_
       refine zM ?_
       refine yL (ov_indexAddr_sl (t := u8) rfl rfl xaby rfl Tryz.underlying43 Tryz.sizeOf5 ya ya) ?_
       refine yL (ov_load_e (t := u8) (p := []) rfl rfl xaby ya trivial rfl rfl tok5) ?_
       refine yL (ov_fieldAddr rfl rfl fa55_2 rfl) ?_
       refine LO_l rfl trivial (ol_st1 rfl rfl rfl ⟨trivial, yn⟩ rfl yf tok5 ?_)
       refine LO_nil ?_
       refine W_regl (fun w0 => ?_)
       refine zM ?_
       refine yL (ov_load rfl rfl ye trivial rfl rfl tok55) ?_
       refine LO_l rfl (by decide : 64 < 67) (ol_buildSlice (t := moveT) (xs := [_]) rfl rfl rfl Tryz.underlying48 tok55 xafy yd yd yd (fun v3 => ?_))
       refine LO_l rfl (by decide : 65 < 67) (ol_ap3 (t := moveT) rfl rfl rfl xaby ap48 xahy xahy (fun v4 => ?_))
       refine zA ?_
       refine LO_nil ?_
       refine W_reg ?_
       refine yM ?_
       refine yR (ov_add rfl rfl rfl ya) ?_
       refine yA_ ?_
       refine RO_nil ?_
       exact ⟨(kq + 1, _), xaly, xaly, ⟨rfl, rfl, rfl, rfl, rfl, rfl, rfl, trivial⟩, (by rw [listK_next p i j kq yo]; exact yb)⟩
      ·
       try simp only [yS] at hc6
       refine W_exit ?_
       refine W_reg ?_
       refine yM ?_
       refine yR (ov_add rfl rfl rfl ya) ?_
       refine yA_ ?_
       refine RO_nil ?_
       exact ⟨(j + 1, _), xaly, xaly, ⟨rfl, rfl, rfl, rfl, trivial⟩, (by first | (rw [listJ_no p i j (by simpa using hc4)]; exact yb) | (rw [listJ_one p i j hmay hc5]; exact yb) | (rw [listJ_many p i j kq hmay hc5 yo]; exact yb))⟩
   ·
    try simp only [yS] at hc3
    refine W_exit ?_
    refine W_reg ?_
    refine yM ?_
    refine yR (ov_add rfl rfl rfl ya) ?_
    refine yA_ ?_
    refine RO_nil ?_
    exact ⟨(i + 1, _), xaly, xaly, ⟨rfl, rfl, rfl, trivial⟩, (by rw [← listJ_64 p i j yo]; exact yb)⟩
  ·
   try simp only [yS] at hc2
   refine W_exit ?_
   refine W_seq (W_reg ?_)
   refine yM ?_
   refine yA_ ?_
   refine RO_nil ?_
   refine W_ret ?_
   refine ⟨trivial, _, .row _ 55 moveT (list13 p) :: M, (ResV_tmp1 rfl rfl rfl), ?_, rfl⟩
   first | (rw [list13_n hc1]; exact yb) | (rw [list13_y hc1, show 64 = i by omega]; exact yb)
end Go.Kw
