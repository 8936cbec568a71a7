/- A part of the proof: KwP24, KwP25, KwP26, KwCardA, KwQ1, KwQ2, KwQ3, KwR13, KwR14. -/
import Derived.Test.YtpakilamdannfaaGreatDoorKf
import Derived.Test.YtpakilamdannfaaGreatDoorCards
import Derived.Test.YtpakilamdannfaaGreatDoorTie
import Derived.WalkKit
import Derived.ProofKit
import Derived.OpenShut
import Derived.ChangeSlices
import Derived.Deep.DeepHandedRow
import Derived.Lib.LaidTab
set_option linter.all false
set_option linter.unusedVariables false
set_option linter.unusedSimpArgs false
set_option linter.unusedSectionVars false
set_option maxRecDepth 20000
set_option linter.unusedVariables false
namespace Go.Kw
open Go.Proofs
theorem tok77 : TyOK Tryz.prog 77 (.st [.fn]) := ⟨Tryz.isAgg77, Tryz.sizeOf77, Tryz.zeroValue77⟩
theorem tok78 : TyOK Tryz.prog 78 (.ar 4 (.st [.fn])) := ⟨Tryz.isAgg78, Tryz.sizeOf78, Tryz.zeroValue78⟩
abbrev fs76 : List Ty := [.fn]
theorem bl77 : BuildOK Tryz.prog 77 fs76 := ⟨_, _, rfl, rfl, Tryz.underlying77, by kernel_rfl⟩
theorem bl78 : BuildOKa Tryz.prog 78 4 (.st [.fn]) := ⟨_, _, _, rfl, rfl, Tryz.underlying78, rfl, rfl⟩
theorem fa58_0 : FA Tryz.prog 58 0 0 := fun a w => by simp [Instr.fieldAt, Tryz.runUnderlying58, Instr.sureAddr, fieldPlace, Tryz.sizeOf5]
theorem fa77_0 : FA Tryz.prog 77 0 0 := fun a w => by simp [Instr.fieldAt, Tryz.runUnderlying77, Instr.sureAddr, fieldPlace, Tryz.sizeOf59]

theorem or_t1 {a b : Bool} (h : a = true) : a = (a || b) := by subst h; rfl
theorem or_f1 {a b : Bool} (h : a = false) : b = (a || b) := by subst h; rfl
def drawP (w : Int) : Res := ((3 : Int), w, ())
def stuckP (p : Pos) : Res := if decide (0 < ((legalL p).length : Int)) = true then zero resT else if decide (vr p = 4) = true then (1 + tu p, (8 : Int), ()) else if checkP p (tu p) = true then (2 - tu p, (1 : Int), ()) else drawP 2
def bothB (p : Pos) (kd : Int) : BitVec 64 := ofB p 0 kd ||| ofB p 1 kd
def menB (p : Pos) : BitVec 64 := allB p &&& ~~~bothB p 6
def lightB : BitVec 64 := 6172840429334713770#64
def fewP (p : Pos) : Bool := decide (onesI (menB p) ≤ 1) || (decide (menB p = bothB p 3) && (decide (menB p &&& lightB = 0#64) || decide (menB p &&& ~~~lightB = 0#64)))
def kingsP (p : Pos) : Bool := (decide (allB p = ofB p 0 6 ||| ofB p 1 6) && decide (onesI (ofB p 0 6) = 1)) && decide (onesI (ofB p 1 6) = 1)
def matP (p : Pos) : Bool :=
  if (decide (vr p = 0) || decide (vr p = 1)) = true then (if (!decide ((menB p &&& ~~~bothB p 3) &&& ~~~bothB p 2 = 0#64)) = true then false else fewP p)
  else if (decide (vr p = 3) || decide (vr p = 5)) = true then kingsP p else false
def littleP (p : Pos) : Res := if matP p = true then drawP 3 else zero resT
def lateP (p : Pos) : Res := if decide (150 ≤ hf p) = true then drawP 4 else zero resT
def askT : List (El (.st [.fn])) := [((some (34, [], []) : FnV), ()), ((some (126, [], []) : FnV), ()), ((some (127, [], []) : FnV), ()), ((some (128, [], []) : FnV), ())]
theorem askT_wf : wf (.ar 4 (.st [.fn])) askT := ⟨rfl, fun _ _ => ⟨trivial, trivial⟩⟩
def askR (p : Pos) : Nat → Res
  | 0 => wonP p
  | 1 => stuckP p
  | 2 => littleP p
  | _ => lateP p
def pickR (a b : Res) : Res := if (!decide (a.1 = 0)) = true then a else b
def outP (p : Pos) : Res := if (decide (9 ≤ vr p) || decide (1 < tu p)) = true then zero resT else pickR (wonP p) (pickR (stuckP p) (pickR (littleP p) (pickR (lateP p) (zero resT))))
def endedP (p : Pos) : Bool := !decide ((outP p).1 = 0)
theorem ask_step {p : Pos} {i : Nat} (h : ∀ j, j < i → (askR p j).1 = 0) (hi : (!decide ((askR p i).1 = 0)) = false) : ∀ j, j < i + 1 → (askR p j).1 = 0 := fun j hj => by
  rcases Nat.lt_or_ge j i with h' | h'
  · exact h j h'
  · rw [show j = i by omega]; simpa using hi
theorem out_a {p : Pos} (h : (decide (9 ≤ vr p) || decide (1 < tu p)) = true) : outP p = zero resT := by unfold outP; rw [if_pos h]
theorem pick_z {a b : Res} (h : a.1 = 0) : pickR a b = b := by unfold pickR; rw [if_neg (by simp [h])]
theorem pick_n {a b : Res} (h : (!decide (a.1 = 0)) = true) : pickR a b = a := by unfold pickR; rw [if_pos h]
theorem out_b {p : Pos} {i : Nat} (h : (decide (9 ≤ vr p) || decide (1 < tu p)) = false) (hH : ∀ j, j < i → (askR p j).1 = 0) (hi : i < 4) (h2 : (!decide ((askR p i).1 = 0)) = true) : outP p = askR p i := by
  unfold outP; rw [if_neg xasy]
  match i, hi with
  | 0, _ => exact pick_n h2
  | 1, _ => rw [pick_z (show (wonP p).1 = 0 from hH 0 yo)]; exact pick_n h2
  | 2, _ => rw [pick_z (show (wonP p).1 = 0 from hH 0 yo), pick_z (show (stuckP p).1 = 0 from hH 1 yo)]; exact pick_n h2
  | 3, _ => rw [pick_z (show (wonP p).1 = 0 from hH 0 yo), pick_z (show (stuckP p).1 = 0 from hH 1 yo), pick_z (show (littleP p).1 = 0 from hH 2 yo)]; exact pick_n h2
theorem out_c {p : Pos} {i : Nat} (h : (decide (9 ≤ vr p) || decide (1 < tu p)) = false) (hH : ∀ j, j < i → (askR p j).1 = 0) (hi : 4 ≤ i) : outP p = zero resT := by
  unfold outP; rw [if_neg xasy, pick_z (show (wonP p).1 = 0 from hH 0 yo), pick_z (show (stuckP p).1 = 0 from hH 1 yo), pick_z (show (littleP p).1 = 0 from hH 2 yo), pick_z (show (lateP p).1 = 0 from hH 3 yo)]

theorem c_outcome_draw (w : Int) (M : List Fact) : Pure Tryz.prog 175 [.int .u8 w] M (enc resT (drawP w)) := by
 refine pure_of_W (n := 5) Tryz.func175 rfl rfl yn ?_
 refine w2 (fun w0 => ?_)
 refine LO_l rfl (by decide : 2 < 5) (ol_alloc (t := resT) rfl tok58 yf (fun b1 => ?_))
 refine LO_nil (w2 (fun w0 => ?_))
 refine zM ?_
 refine yL (ov_build (fs := fs57) (ds := [⟨0, _⟩, ⟨1, _⟩]) rfl rfl bl58 ⟨yn, yf, ⟨yn, yf, trivial⟩⟩ rfl) ?_
 refine LO_l rfl trivial (ol_sw0 rfl rfl rfl rfl yf tok58 ?_)
 refine LO_nil (W_ret ⟨trivial, yb, (ResV_cell rfl rfl ye rfl tok58 ?_)⟩)
 rfl

theorem c_outcome_stuck (p : Pos) (hp : POK p) (M : List Fact) (hT : TAB ∈ M) (ht : tu p ≤ 1) : Pure Tryz.prog 126 [enc posT p] M (enc resT (stuckP p)) := by
 obtain ⟨hb, hpw, hvr, htu, hpg, hvr0, htu0⟩ := hp.head
 have ht2 := ht
 simp only [tu] at ht2
 refine pure_of_W (n := 26) Tryz.func126 rfl rfl yn ?_
 refine w2 (fun w0 => ?_)
 refine LO_l rfl (by decide : 1 < 26) (ol_box (t := posT) rfl rfl rfl yf (fun b1 => ?_))
 refine LO_l rfl (by decide : 2 < 26) (ol_alloc (t := resT) rfl tok58 yf (fun b2 => ?_))
 refine LO_nil (W_seq (w2 (fun w0 => ?_)))
 refine yL (ov_load rfl rfl ye trivial rfl rfl tok31) ?_
 refine LO_l rfl (by decide : 4 < 26) (ol_call (v0 := []) (v2 := []) rfl rfl rfl Tryz.call15 (Con.mono (by apply c_legal_List <;> exact yz) ?_))
 rintro vl _ rfl
 refine yL (ov_len rfl rfl xaby Tryz.underlying48) ?_
 refine yL (ov_gtr rfl rfl rfl) ?_
 refine LO_nil (W_cond rfl (fun hc1 => ?_) (fun hc1 => ?_))
 ·
  refine w2 (fun w0 => ?_)
  refine yL (ov_build (fs := fs57) (ds := []) rfl rfl bl58 trivial rfl) ?_
  refine LO_l rfl trivial (ol_sw1 rfl rfl rfl rfl yf tok58 ?_)
  refine LO_nil (W_ret ⟨trivial, yb, (ResV_cell rfl rfl ye rfl tok58 ?_)⟩)
  exact xbly
 ·
  refine W_skip (W_seq (W_block (w1 ((yR (ov_fieldAddr rfl rfl fa31_0 rfl) ?_)))))
  refine yR (ov_load rfl rfl ye ⟨trivial, yn⟩ rfl rfl tok5) ?_
  refine yR (ov_eql rfl rfl rfl) ?_
  refine yA_ ?_
  refine RO_nil (W_cond rfl (fun hc2 => ?_) (fun hc2 => ?_))
  ·
   refine w2 (fun w0 => ?_)
   refine yL (ov_fieldAddr rfl rfl fa31_4 rfl) ?_
   refine yL (ov_load rfl rfl ye ⟨trivial, yn⟩ rfl rfl tok5) ?_
   refine yL (ov_add rfl rfl rfl ya) ?_
   refine yL (ov_build (fs := fs57) (ds := [⟨0, _⟩, ⟨1, _⟩]) rfl rfl bl58 ⟨yn, yf, ⟨yn, yf, trivial⟩⟩ rfl) ?_
   refine LO_l rfl trivial (ol_sw1 rfl rfl rfl rfl yf tok58 ?_)
   refine LO_nil (W_ret ⟨trivial, yb, (ResV_cell rfl rfl ye rfl tok58 ?_)⟩)
   exact xbly
  ·
   refine w1 ((yR (ov_load rfl rfl ye trivial rfl rfl tok31) ?_))
   refine yR (ov_fieldAddr rfl rfl fa31_4 rfl) ?_
   refine yR (ov_load rfl rfl ye ⟨trivial, yn⟩ rfl rfl tok5) ?_
   refine yP (yV rfl rfl rfl Tryz.call32 (c_attack_Check p hp (tu p) _ ye htu.1 ht)) ?_
   refine yA_ ?_
   refine RO_nil (W_cond rfl (fun hc3 => ?_) (fun hc3 => ?_))
   ·
    refine w2 (fun w0 => ?_)
    refine yL (ov_fieldAddr rfl rfl fa31_4 rfl) ?_
    refine yL (ov_load rfl rfl ye ⟨trivial, yn⟩ rfl rfl tok5) ?_
    refine yL (ov_sub rfl rfl rfl ya) ?_
    refine yL (ov_build (fs := fs57) (ds := [⟨0, _⟩, ⟨1, _⟩]) rfl rfl bl58 ⟨yn, yf, ⟨yn, yf, trivial⟩⟩ rfl) ?_
    refine LO_l rfl trivial (ol_sw1 rfl rfl rfl rfl yf tok58 ?_)
    refine LO_nil (W_ret ⟨trivial, yb, (ResV_cell rfl rfl ye rfl tok58 ?_)⟩)
    exact xbly
   ·
    refine W_skip (w2 (fun w0 => ?_))
    refine yQ (yV rfl rfl rfl Tryz.call175 (by apply c_outcome_draw <;> exact yz)) ?_
    refine LO_l rfl trivial (ol_sw1 rfl rfl rfl rfl yf tok58 ?_)
    refine LO_nil (W_ret ⟨trivial, yb, (ResV_cell rfl rfl ye rfl tok58 ?_)⟩)
    exact xbly

theorem c_outcome_of (p : Pos) (hp : POK p) (kd : Int) (M : List Fact) : Pure Tryz.prog 205 [enc posT p, .int .u8 kd] M (u64v (bothB p kd)) := by
 obtain ⟨hb, hpw, hvr, htu, hpg, hvr0, htu0⟩ := hp.head
 refine pure_of_W (n := 12) Tryz.func205 rfl rfl yn ?_
 refine w2 (fun w0 => ?_)
 refine LO_l rfl (by decide : 2 < 12) (ol_box (t := posT) rfl rfl rfl yf (fun b1 => ?_))
 refine yL (ov_assign (v := u64v 0#64) rfl rfl) ?_
 refine LO_nil (W_seq (W_regd mixed yk ?_))
 refine yR (ov_load rfl rfl ye trivial rfl rfl tok31) ?_
 refine yM ?_
 refine yP (yV rfl rfl rfl Tryz.call117 xavy) ?_
 refine yR (ov_load rfl rfl ye trivial rfl rfl tok31) ?_
 refine yM ?_
 refine yP (yV rfl rfl rfl Tryz.call117 xavy) ?_
 refine yR (ov_bits rfl rfl rfl (.inr (.inl ⟨rfl, rfl⟩))) ?_
 refine yA_ ?_
 refine RO_nil (W_ret ⟨trivial, yb, (ResV_tmp1 rfl rfl ?_)⟩)
 rfl

theorem c_outcome_Material (p : Pos) (hp : POK p) (M : List Fact) : Pure Tryz.prog 176 [enc posT p] M (.bool (matP p)) := by
 obtain ⟨hb, hpw, hvr, htu, hpg, hvr0, htu0⟩ := hp.head
 refine pure_of_W (n := 68) Tryz.func176 rfl rfl yn ?_
 refine w2 (fun w0 => ?_)
 refine LO_l rfl (by decide : 1 < 68) (ol_box (t := posT) rfl rfl rfl yf (fun b1 => ?_))
 refine zA ?_
 refine LO_nil (w1 ((yR (ov_load rfl rfl ye trivial rfl rfl tok31) ?_)))
 refine yP (yV rfl rfl rfl Tryz.call162 (by apply c_board_All <;> exact yz)) ?_
 refine yA_ ?_
 refine RO_nil (W_seq (w1 ((yR (ov_fieldAddr rfl rfl fa31_0 rfl) ?_))))
 refine yR (ov_load rfl rfl ye ⟨trivial, yn⟩ rfl rfl tok5) ?_
 refine RO_nil (W_block (W_cut [(1, ptrv b1 posT []), (3, u64v (allB p)), (11, .int .u8 (vr p)), (12, .bool (decide (vr p = 0) || decide (vr p = 1)))] (.box b1 31 posT p :: M) ?_ ?_))
 ·
  refine w1 ((yR (ov_eql rfl rfl rfl) ?_))
  refine yA_ ?_
  refine RO_nil (W_cond rfl (fun hc1 => ?_) (fun hc1 => ?_))
  ·
   refine W_skip ?_
   exact ⟨⟨rfl, rfl, rfl, congrArg some (val_bool (by first | exact or_t1 hc1 | exact or_f1 hc1)), trivial⟩, yb⟩
  ·
   refine W_reg (yR (ov_eql rfl rfl rfl) ?_)
   refine yA_ ?_
   refine RO_nil ?_
   exact ⟨⟨rfl, rfl, rfl, congrArg some (val_bool (by first | exact or_t1 hc1 | exact or_f1 hc1)), trivial⟩, yb⟩
 ·
  refine W_cond rfl (fun hc2 => ?_) (fun hc2 => ?_)
  ·
   refine w1 ((yM ?_))
   refine yR (ov_load rfl rfl ye trivial rfl rfl tok31) ?_
   refine yP (yV rfl rfl rfl Tryz.call205 (by apply c_outcome_of <;> exact yz)) ?_
   refine yR (ov_bits rfl rfl rfl (.inr (.inr (.inr ⟨rfl, rfl⟩)))) ?_
   refine yA_ ?_
   refine RO_nil (w1 ((yR (ov_load rfl rfl ye trivial rfl rfl tok31) ?_)))
   refine yP (yV rfl rfl rfl Tryz.call205 (by apply c_outcome_of <;> exact yz)) ?_
   refine yA_ ?_
   refine RO_nil (W_seq (w1 ((yM ?_))))
   refine yM ?_
   refine yR (ov_bits rfl rfl rfl (.inr (.inr (.inr ⟨rfl, rfl⟩)))) ?_
   refine yR (ov_load rfl rfl ye trivial rfl rfl tok31) ?_
   refine yP (yV rfl rfl rfl Tryz.call205 (by apply c_outcome_of <;> exact yz)) ?_
   refine yR (ov_bits rfl rfl rfl (.inr (.inr (.inr ⟨rfl, rfl⟩)))) ?_
   refine yR (ov_neq64 (b := 0#64) rfl rfl rfl) ?_
   refine RO_nil (W_cond rfl (fun hc3 => ?_) (fun hc3 => ?_))
   ·
    refine w1 ((yA_ ?_))
    refine RO_nil (W_ret ⟨trivial, yb, (ResV_tmp1 rfl rfl ?_)⟩)
    exact xbmy
   ·
    refine W_skip (w1 ((yM ?_)))
    refine yP (yV rfl rfl rfl Tryz.call206 (by apply c_math_bits_OnesCount64 <;> exact yz)) ?_
    refine yR (ov_leq rfl rfl rfl) ?_
    refine yM ?_
    refine gM ?_
    refine gM ?_
    refine yG (fun hg => OpX.v (ov_eql64 rfl (look_gv rfl (bq hg)) (look_gv rfl (bq hg)))) ?_
    refine yG (fun hg => OpX.v (ov_move rfl (look_gv rfl (bq hg)))) ?_
    refine RO_g rfl rfl rfl rfl rfl yd (fun hg1 hg2 => OpX.v (ov_move rfl rfl)) ?_
    refine RO_g rfl rfl rfl rfl rfl yd (fun hg1 hg2 => OpX.v (ov_bits (b := 6172840429334713770#64) rfl (look_gv rfl (bq2 hg1 hg2)) rfl (.inl ⟨rfl, rfl⟩))) ?_
    refine RO_g rfl rfl rfl rfl rfl yd (fun hg1 hg2 => OpX.v (ov_eql64 (b := 0#64) rfl (look_gv rfl (bq2 hg1 hg2)) rfl)) ?_
    refine RO_g rfl rfl rfl rfl rfl yd (fun hg1 hg2 => OpX.v (ov_move rfl (look_gv rfl (bq2 hg1 hg2)))) ?_
    refine RO_g rfl rfl rfl rfl rfl yd (fun hg1 hg2 => OpX.v (ov_move rfl rfl)) ?_
    refine RO_g rfl rfl rfl rfl rfl yd (fun hg1 hg2 => OpX.v (ov_bits (b := 6172840429334713770#64) rfl (look_gv rfl (bq2 hg1 hg2)) rfl (.inr (.inr (.inr ⟨rfl, rfl⟩))))) ?_
    refine RO_g rfl rfl rfl rfl rfl yd (fun hg1 hg2 => OpX.v (ov_eql64 (b := 0#64) rfl (look_gv rfl (bq2 hg1 hg2)) rfl)) ?_
    refine RO_g rfl rfl rfl rfl rfl yd (fun hg1 hg2 => OpX.v (ov_or rfl (look_gv rfl (bq2 hg1 hg2)) rfl rfl (fun h => bq2 (bq2 hg1 hg2) h))) ?_
    refine yG (fun hg => OpX.v (ov_and rfl (look_gv rfl (bq hg)) rfl rfl (fun h => bq2 (bq hg) h))) ?_
    refine yR (ov_or rfl rfl rfl rfl (fun h => bq h)) ?_
    refine yA_ ?_
    refine RO_nil (W_ret ⟨trivial, yb, (ResV_tmp1 rfl rfl ?_)⟩)
    exact xbmy
  ·
   refine W_cut [(1, ptrv b1 posT []), (3, u64v (allB p)), (46, .bool (decide (vr p = 3) || decide (vr p = 5)))] (.box b1 31 posT p :: M) ?_ ?_
   ·
    refine w1 ((yR (ov_eql rfl rfl rfl) ?_))
    refine yA_ ?_
    refine RO_nil (W_cond rfl (fun hc4 => ?_) (fun hc4 => ?_))
    ·
     refine W_skip ?_
     exact ⟨⟨rfl, rfl, congrArg some (val_bool (by first | exact or_t1 hc4 | exact or_f1 hc4)), trivial⟩, yb⟩
    ·
     refine W_reg (yR (ov_eql rfl rfl rfl) ?_)
     refine yA_ ?_
     refine RO_nil ?_
     exact ⟨⟨rfl, rfl, congrArg some (val_bool (by first | exact or_t1 hc4 | exact or_f1 hc4)), trivial⟩, yb⟩
   ·
    refine W_cond rfl (fun hc5 => ?_) (fun hc5 => ?_)
    ·
     refine W_seq (W_regd mixed yk ?_)
     refine yR (ov_load rfl rfl ye trivial rfl rfl tok31) ?_
     refine yP (yV rfl rfl rfl Tryz.call117 xavy) ?_
     refine yR (ov_load rfl rfl ye trivial rfl rfl tok31) ?_
     refine yP (yV rfl rfl rfl Tryz.call117 xavy) ?_
     refine yA_ ?_
     refine yA_ ?_
     refine RO_nil (w1 ((yM ?_)))
     refine yM ?_
     refine yM ?_
     refine yR (ov_bits rfl rfl rfl (.inr (.inl ⟨rfl, rfl⟩))) ?_
     refine yR (ov_eql64 rfl rfl rfl) ?_
     refine yM ?_
     refine gM ?_
     refine yG (fun hg => yV rfl rfl (looks_cons (look_gv rfl (bq hg)) looks_nil) Tryz.call206 (by apply c_math_bits_OnesCount64 <;> exact yz)) ?_
     refine yG (fun hg => OpX.v (ov_eql rfl (look_gv rfl (bq hg)) rfl)) ?_
     refine yR (ov_and rfl rfl rfl rfl (fun h => bq h)) ?_
     refine yM ?_
     refine gM ?_
     refine yG (fun hg => yV rfl rfl (looks_cons (look_gv rfl (bq hg)) looks_nil) Tryz.call206 (by apply c_math_bits_OnesCount64 <;> exact yz)) ?_
     refine yG (fun hg => OpX.v (ov_eql rfl (look_gv rfl (bq hg)) rfl)) ?_
     refine yR (ov_and rfl rfl rfl rfl (fun h => bq h)) ?_
     refine yA_ ?_
     refine RO_nil (W_ret ⟨trivial, yb, (ResV_tmp1 rfl rfl ?_)⟩)
     exact xbmy
    ·
     refine W_skip (w1 ((yA_ ?_)))
     refine RO_nil (W_ret ⟨trivial, yb, (ResV_tmp1 rfl rfl ?_)⟩)
     exact xbmy

theorem c_outcome_little (p : Pos) (hp : POK p) (M : List Fact) : Pure Tryz.prog 127 [enc posT p] M (enc resT (littleP p)) := by
 obtain ⟨hb, hpw, hvr, htu, hpg, hvr0, htu0⟩ := hp.head
 refine pure_of_W (n := 7) Tryz.func127 rfl rfl yn ?_
 refine w2 (fun w0 => ?_)
 refine LO_l rfl (by decide : 1 < 7) (ol_box (t := posT) rfl rfl rfl yf (fun b1 => ?_))
 refine LO_l rfl (by decide : 2 < 7) (ol_alloc (t := resT) rfl tok58 yf (fun b2 => ?_))
 refine LO_nil (W_seq (w1 ((yR (ov_load rfl rfl ye trivial rfl rfl tok31) ?_))))
 refine yP (yV rfl rfl rfl Tryz.call176 (by apply c_outcome_Material <;> exact yz)) ?_
 refine RO_nil (W_cond rfl (fun hc1 => ?_) (fun hc1 => ?_))
 ·
  refine w2 (fun w0 => ?_)
  refine yQ (yV rfl rfl rfl Tryz.call175 (by apply c_outcome_draw <;> exact yz)) ?_
  refine LO_l rfl trivial (ol_sw0 rfl rfl rfl rfl yf tok58 ?_)
  refine LO_nil (W_ret ⟨trivial, yb, (ResV_cell rfl rfl ye rfl tok58 ?_)⟩)
  first | exact val_enc (show littleP p = _ from if_pos hc1).symm | exact val_enc (show littleP p = _ from if_neg (Bool.eq_false_iff.1 hc1)).symm
 ·
  refine W_skip (w2 (fun w0 => ?_))
  refine yL (ov_build (fs := fs57) (ds := []) rfl rfl bl58 trivial rfl) ?_
  refine LO_l rfl trivial (ol_sw0 rfl rfl rfl rfl yf tok58 ?_)
  refine LO_nil (W_ret ⟨trivial, yb, (ResV_cell rfl rfl ye rfl tok58 ?_)⟩)
  first | exact val_enc (show littleP p = _ from if_pos hc1).symm | exact val_enc (show littleP p = _ from if_neg (Bool.eq_false_iff.1 hc1)).symm

theorem c_outcome_late (p : Pos) (hp : POK p) (M : List Fact) : Pure Tryz.prog 128 [enc posT p] M (enc resT (lateP p)) := by
 obtain ⟨hb, hpw, hvr, htu, hpg, hvr0, htu0⟩ := hp.head
 refine pure_of_W (n := 8) Tryz.func128 rfl rfl yn ?_
 refine w2 (fun w0 => ?_)
 refine LO_l rfl (by decide : 1 < 8) (ol_box (t := posT) rfl rfl rfl yf (fun b1 => ?_))
 refine LO_l rfl (by decide : 2 < 8) (ol_alloc (t := resT) rfl tok58 yf (fun b2 => ?_))
 refine LO_nil (W_seq (w1 ((yR (ov_fieldAddr rfl rfl fa31_8 rfl) ?_))))
 refine yR (ov_load rfl rfl ye ⟨trivial, yn⟩ rfl rfl tok3) ?_
 refine yR (ov_geq rfl rfl rfl) ?_
 refine RO_nil (W_cond rfl (fun hc1 => ?_) (fun hc1 => ?_))
 ·
  refine w2 (fun w0 => ?_)
  refine yQ (yV rfl rfl rfl Tryz.call175 (by apply c_outcome_draw <;> exact yz)) ?_
  refine LO_l rfl trivial (ol_sw0 rfl rfl rfl rfl yf tok58 ?_)
  refine LO_nil (W_ret ⟨trivial, yb, (ResV_cell rfl rfl ye rfl tok58 ?_)⟩)
  first | exact val_enc (show lateP p = _ from if_pos hc1).symm | exact val_enc (show lateP p = _ from if_neg (Bool.eq_false_iff.1 hc1)).symm
 ·
  refine W_skip (w2 (fun w0 => ?_))
  refine yL (ov_build (fs := fs57) (ds := []) rfl rfl bl58 trivial rfl) ?_
  refine LO_l rfl trivial (ol_sw0 rfl rfl rfl rfl yf tok58 ?_)
  refine LO_nil (W_ret ⟨trivial, yb, (ResV_cell rfl rfl ye rfl tok58 ?_)⟩)
  first | exact val_enc (show lateP p = _ from if_pos hc1).symm | exact val_enc (show lateP p = _ from if_neg (Bool.eq_false_iff.1 hc1)).symm

theorem c_outcome_questions (M : List Fact) : Pure Tryz.prog 57 [] M (enc (.ar 4 (.st [.fn])) askT) := by
 have hww := askT_wf
 refine pure_of_W (n := 6) Tryz.func57 rfl rfl yn ?_
 refine w2 (fun w0 => ?_)
 refine LO_l rfl (by decide : 0 < 6) (ol_alloc (t := (.ar 4 (.st [.fn]))) rfl tok78 yf (fun b1 => ?_))
 refine LO_nil (w2 (fun w0 => ?_))
 refine yL (ov_build (fs := fs76) (ds := [⟨0, (some (34, [], []) : FnV)⟩]) rfl rfl bl77 ⟨yn, yf, trivial⟩ rfl) ?_
 refine yL (ov_build (fs := fs76) (ds := [⟨0, (some (126, [], []) : FnV)⟩]) rfl rfl bl77 ⟨yn, yf, trivial⟩ rfl) ?_
 refine yL (ov_build (fs := fs76) (ds := [⟨0, (some (127, [], []) : FnV)⟩]) rfl rfl bl77 ⟨yn, yf, trivial⟩ rfl) ?_
 refine yL (ov_build (fs := fs76) (ds := [⟨0, (some (128, [], []) : FnV)⟩]) rfl rfl bl77 ⟨yn, yf, trivial⟩ rfl) ?_
 refine yL (ov_buildA (t := (.st [.fn])) (ds := [(0, _), (1, _), (2, _), (3, _)]) rfl rfl bl78 ⟨yn, yf, ⟨yn, yf, ⟨yn, yf, ⟨yn, yf, trivial⟩⟩⟩⟩ rfl) ?_
 refine LO_l rfl trivial (ol_sw0 rfl rfl rfl rfl yf tok78 ?_)
 refine LO_nil (W_ret ⟨trivial, yb, (ResV_cell rfl rfl ye rfl tok78 ?_)⟩)
 rfl

theorem ask_ok {p : Pos} (hp : POK p) (ht : tu p ≤ 1) (i : Nat) (hi : i < 4) : ∃ f, (askT.getD ((i : Nat) : Int).toNat (zero (.st [.fn]))).1 = some (f, [], []) ∧ (∀ av w, (callFunc f av).run Tryz.prog w = .ok (.enter f av) w) ∧ ∀ M, TAB ∈ M → Pure Tryz.prog f [enc posT p] M (enc resT (askR p i)) := by
  match i, hi with
  | 0, _ => exact ⟨_, rfl, Tryz.call34, fun M hT => c_legal_Won p hp M hT⟩
  | 1, _ => exact ⟨_, rfl, Tryz.call126, fun M hT => c_outcome_stuck p hp M hT ht⟩
  | 2, _ => exact ⟨_, rfl, Tryz.call127, fun M hT => c_outcome_little p hp M⟩
  | 3, _ => exact ⟨_, rfl, Tryz.call128, fun M hT => c_outcome_late p hp M⟩

theorem c_outcome_Of (p : Pos) (hp : POK p) (M : List Fact) (hT : TAB ∈ M) : Pure Tryz.prog 21 [enc posT p] M (enc resT (outP p)) := by
 obtain ⟨hb, hpw, hvr, htu, hpg, hvr0, htu0⟩ := hp.head
 have hww := askT_wf
 refine pure_of_W (n := 29) Tryz.func21 rfl rfl yn ?_
 refine w2 (fun w0 => ?_)
 refine LO_l rfl (by decide : 1 < 29) (ol_box (t := posT) rfl rfl rfl yf (fun b1 => ?_))
 refine LO_l rfl (by decide : 2 < 29) (ol_alloc (t := resT) rfl tok58 yf (fun b2 => ?_))
 refine LO_nil (W_seq (w1 ((yR (ov_fieldAddr rfl rfl fa31_0 rfl) ?_))))
 refine yR (ov_load rfl rfl ye ⟨trivial, yn⟩ rfl rfl tok5) ?_
 refine yR (ov_geq rfl rfl rfl) ?_
 refine yM ?_
 refine yG (fun hg => OpX.v (ov_fieldAddr rfl rfl fa31_4 rfl)) ?_
 refine yG (fun hg => OpX.v (ov_load rfl (look_gv rfl (bq hg)) ye ⟨trivial, yn⟩ rfl rfl tok5)) ?_
 refine yG (fun hg => OpX.v (ov_gtr rfl (look_gv rfl (bq hg)) rfl)) ?_
 refine yR (ov_or rfl rfl rfl rfl (fun h => bq h)) ?_
 refine RO_nil (W_cond rfl (fun hc1 => ?_) (fun hc1 => ?_))
 ·
  refine w2 (fun w0 => ?_)
  refine yL (ov_build (fs := fs57) (ds := []) rfl rfl bl58 trivial rfl) ?_
  refine LO_l rfl trivial (ol_sw0 rfl rfl rfl rfl yf tok58 ?_)
  refine LO_nil (W_ret ⟨trivial, yb, (ResV_cell rfl rfl ye rfl tok58 ?_)⟩)
  first | exact val_enc (out_a hc1).symm | exact val_enc (out_b hc1 hH yo hc3).symm | exact val_enc (out_c hc1 hH yo).symm
 ·
  have ht : tu p ≤ 1 := Int.not_lt.1 (of_decide_eq_false (Bool.or_eq_false_iff.1 hc1).2)
  refine W_skip (W_seq (w1 ((yP (yV rfl rfl rfl Tryz.call57 (by apply c_outcome_questions <;> exact yz)) ?_))))
  refine yM ?_
  refine RO_nil (W_block (W_loop (σ := Nat) (fun s5 => s5 ≤ 4 ∧ ∀ j, j < s5 → (askR p j).1 = 0) (fun s5 => [(1, ptrv b1 posT []), (2, ptrv b2 resT []), (15, enc (.ar 4 (.st [.fn])) askT), (16, .int .i64 (s5 : Int))]) (fun s5 => .box b2 58 resT (zero resT) :: .box b1 31 posT _ :: M) (fun s5 => 4 - s5) (0) ⟨by omega, fun j hj => absurd hj yo⟩ ⟨rfl, rfl, rfl, rfl, trivial⟩ yb ?_))
  rintro i ⟨hI, hH⟩
  refine w1 ((yR (ov_lss rfl rfl rfl) ?_))
  refine RO_nil (W_seq (W_cond rfl (fun hc2 => ?_) (fun hc2 => ?_)))
  ·
   try simp only [yS] at hc2
   obtain ⟨f, hfn, hcf, hpf⟩ := ask_ok hp ht i yo
   have hwq : wf (.st [.fn]) (askT.getD ((i : Nat) : Int).toNat (zero (.st [.fn]))) := ⟨trivial, trivial⟩
   refine W_skip (W_seq (W_block (w2 (fun w0 => ?_))))
   refine yL (ov_index (t := (.ar 4 (.st [.fn]))) rfl rfl yf rfl rfl Tryz.underlying78 ya ya (tn ya ya) rfl rfl rfl tok77) ?_
   refine LO_l rfl (by decide : 4 < 29) (ol_alloc (t := (.st [.fn])) rfl tok77 yf (fun b3 => ?_))
   refine LO_l rfl trivial (ol_sw0 rfl rfl rfl rfl yf tok77 ?_)
   refine LO_nil (w2 (fun w0 => ?_))
   refine yL (ov_fieldAddr rfl rfl fa77_0 rfl) ?_
   refine yL (ov_load (v := .func (.func f) #[] #[]) rfl rfl ye ⟨trivial, yn⟩ rfl (congrArg (fun q => some (encFn q)) hfn) tok59) ?_
   refine yL (ov_load rfl rfl ye trivial rfl rfl tok31) ?_
   refine yQ (ov_call  rfl rfl rfl hcf (hpf _ ye)) ?_
   refine LO_l rfl (by decide : 5 < 29) (ol_alloc (t := resT) rfl tok58 yf (fun b4 => ?_))
   refine LO_l rfl trivial (ol_sw0 rfl rfl rfl rfl yf tok58 ?_)
   refine LO_nil (w1 ((yR (ov_fieldAddr rfl rfl fa58_0 rfl) ?_)))
   refine yR (ov_load rfl rfl ye ⟨trivial, yn⟩ rfl rfl tok5) ?_
   refine yR (ov_neq rfl rfl rfl) ?_
   refine RO_nil (W_cond rfl (fun hc3 => ?_) (fun hc3 => ?_))
   ·
    refine w2 (fun w0 => ?_)
    refine yL (ov_load rfl rfl ye trivial rfl rfl tok58) ?_
    refine LO_l rfl trivial (ol_sw2 rfl rfl rfl rfl yf tok58 ?_)
    refine LO_nil (W_ret ⟨trivial, yb, (ResV_cell rfl rfl ye rfl tok58 ?_)⟩)
    first | exact val_enc (out_a hc1).symm | exact val_enc (out_b hc1 hH yo hc3).symm | exact val_enc (out_c hc1 hH yo).symm
   ·
    refine W_skip (W_reg (yR (ov_add rfl rfl rfl ya) ?_))
    refine yM ?_
    refine RO_nil ?_
    exact ⟨i + 1, yo, ⟨by omega, ask_step hH hc3⟩, ⟨rfl, rfl, rfl, rfl, trivial⟩, yb⟩
  ·
   try simp only [yS] at hc2
   refine W_exit (w2 (fun w0 => ?_))
   refine yL (ov_build (fs := fs57) (ds := []) rfl rfl bl58 trivial rfl) ?_
   refine LO_l rfl trivial (ol_sw0 rfl rfl rfl rfl yf tok58 ?_)
   refine LO_nil (W_ret ⟨trivial, yb, (ResV_cell rfl rfl ye rfl tok58 ?_)⟩)
   first | exact val_enc (out_a hc1).symm | exact val_enc (out_b hc1 hH yo hc3).symm | exact val_enc (out_c hc1 hH yo).symm

theorem c_outcome_Ended (p : Pos) (hp : POK p) (M : List Fact) (hT : TAB ∈ M) : Pure Tryz.prog 33 [enc posT p] M (.bool (endedP p)) := by
 obtain ⟨hb, hpw, hvr, htu, hpg, hvr0, htu0⟩ := hp.head
 refine pure_of_W (n := 7) Tryz.func33 rfl rfl yn ?_
 refine w2 (fun w0 => ?_)
 refine LO_l rfl (by decide : 1 < 7) (ol_box (t := posT) rfl rfl rfl yf (fun b1 => ?_))
 refine zA ?_
 refine LO_nil (w1 ((yR (ov_load rfl rfl ye trivial rfl rfl tok31) ?_)))
 refine yP (yV rfl rfl rfl Tryz.call21 (by apply c_outcome_Of <;> exact yz)) ?_
 refine yR (ov_field (t := resT) rfl rfl yf rfl Tryz.underlying58 rfl yn rfl rfl rfl tok5) ?_
 refine yR (ov_neq rfl rfl rfl) ?_
 refine yA_ ?_
 refine RO_nil (W_ret ⟨trivial, yb, (ResV_tmp1 rfl rfl ?_)⟩)
 rfl
end Go.Kw
set_option linter.unusedVariables false
namespace Go.Kw
open Go.Proofs
theorem tok34 : TyOK Tryz.prog 34 i64 := ⟨Tryz.isAgg34, Tryz.sizeOf34, Tryz.zeroValue34⟩
theorem tok89 : TyOK Tryz.prog 89 walkT := ⟨Tryz.isAgg89, Tryz.sizeOf89, Tryz.zeroValue89⟩
theorem fa89_0 : FA Tryz.prog 89 0 0 := fun a w => by simp [Instr.fieldAt, Tryz.runUnderlying89, Instr.sureAddr, fieldPlace, Tryz.sizeOf87]

def waysP : Nat → Pos → List Pos
  | 0, p => [p]
  | k + 1, p => if endedP p = true then [] else (legalL p).flatMap fun m => waysP k (moveP p m).1
def waysTo (p : Pos) (k j : Nat) : List Pos := ((show List Mv from legalL p).take j).flatMap fun m => waysP k (moveP p m).1
def gAt (g : List (El i64)) (i : Nat) : Int := (show List Int from g).getD i 0
def bump (g : List (El i64)) (a : Nat) : List (El i64) := (show List Int from g).set a (gAt g a + 1)
def WalkOK (E : List Pos → List Fact) (M0 : List Fact) (fv : Value) (k : Nat) : Prop := ∀ (p : Pos), POK p → ∀ (a d : Nat) (g : List (El i64)) (qs : List Pos) (bw : Nat), g.length = 65 → a + k = d → d ≤ 64 → (∀ i, i ≤ k → 0 ≤ gAt g (a + i) ∧ gAt g (a + i) + ((waysP i p).length : Int) ≤ 1000000) → qs.length + (waysP k p).length ≤ 1000000 →
  Con Tryz.prog 68 [ptrv bw walkT [], enc posT p, .int .i64 (a : Int), .int .i64 (d : Int), fv] (.box bw 89 walkT (g, ()) :: (E qs ++ M0)) (fun _ M' => ∃ g' : List (El i64), M' = .box bw 89 walkT (g', ()) :: (E (qs ++ waysP k p) ++ M0) ∧ g'.length = 65 ∧ ∀ i, gAt g' i = gAt g i + (if a ≤ i ∧ i ≤ d then ((waysP (i - a) p).length : Int) else 0))
theorem bump_spec (g : List (El i64)) (a : Nat) (hg : g.length = 65) (ha : a < 65) : (bump g a).length = 65 ∧ gAt (bump g a) a = gAt g a + 1 ∧ ∀ i, i ≠ a → gAt (bump g a) i = gAt g i := by
  have key : ∀ (l : List Int) (x : Int), l.length = 65 → (l.set a x).length = 65 ∧ (l.set a x).getD a 0 = x ∧ ∀ i, i ≠ a → (l.set a x).getD i 0 = l.getD i 0 := fun l x hl => by
    refine ⟨by rw [List.length_set]; exact hl, ?_, fun i hi => ?_⟩
    · rw [List.getD_eq_getElem?_getD, List.getElem?_set_self yo]; rfl
    · rw [List.getD_eq_getElem?_getD, List.getElem?_set_ne yo, ← List.getD_eq_getElem?_getD]
  exact key g (gAt g a + 1) hg
theorem legalL_mem {p : Pos} {m : Mv} (h : m ∈ legalL p) : m ∈ allL p := by
  unfold legalL at h; split at h
  · cases h
  · exact wouldP_mem h
theorem legalL_len (p : Pos) : (legalL p).length ≤ 1000000 := by
  unfold legalL; split
  · exact Nat.zero_le _
  · exact wouldP_len p
theorem legalL_at (p : Pos) {j : Nat} (h : j < (legalL p).length) : (legalL p).getD ((j : Nat) : Int).toNat (zero moveT) ∈ (show List Mv from legalL p) := getD_mem (legalL p) h
theorem move_ok {p : Pos} {m : Mv} (h : m ∈ allL p) : moveP p m = (madeP p m, true) := by
  unfold moveP; rw [if_neg (by rw [has_iff.2 h]; simp)]
theorem legal_ok {p : Pos} (hp : POK p) {m : Mv} (h : m ∈ (show List Mv from legalL p)) : POK (moveP p m).1 := by
  rw [move_ok (legalL_mem h)]; exact POK_made hp (legalL_mem h)
theorem waysTo_next (p : Pos) (k : Nat) {j : Nat} (h : j < (legalL p).length) : waysTo p k (j + 1) = waysTo p k j ++ waysP k (moveP p ((legalL p).getD ((j : Nat) : Int).toNat (zero moveT))).1 := by
  have key : ∀ (l : List Mv) (f : Mv → List Pos), j < l.length → (l.take (j + 1)).flatMap f = (l.take j).flatMap f ++ f (l.getD j (zero moveT)) := fun l f hl => by
    rw [List.take_add_one, List.getElem?_eq_getElem hl, List.flatMap_append, List.getD_eq_getElem?_getD, List.getElem?_eq_getElem hl]; simp
  exact key (legalL p) _ h
theorem waysP_e {p : Pos} {k : Nat} (h : endedP p = true) : waysP (k + 1) p = [] := by rw [waysP, if_pos h]
theorem waysP_n {p : Pos} {k : Nat} (h : endedP p = false) : waysP (k + 1) p = (legalL p).flatMap fun m => waysP k (moveP p m).1 := by rw [waysP, if_neg xasy]
theorem waysTo_all (p : Pos) (k : Nat) {j : Nat} (h : (legalL p).length ≤ j) : waysTo p k j = (legalL p).flatMap fun m => waysP k (moveP p m).1 := by
  unfold waysTo
  have e : (show List Mv from legalL p).take j = legalL p := List.take_of_length_le h
  rw [e]
theorem flat_take_le {α β : Type} (f : α → List β) : ∀ (l : List α) (j : Nat), ((l.take j).flatMap f).length ≤ (l.flatMap f).length
  | [], j => by simp
  | x :: l, 0 => by simp
  | x :: l, j + 1 => by
    have := flat_take_le f l j
    simp only [List.take_succ_cons, List.flatMap_cons, List.length_append]; omega
theorem waysTo_le (p : Pos) (k j : Nat) (h : endedP p = false) : (waysTo p k j).length ≤ (waysP (k + 1) p).length := by
  rw [waysP_n h]; exact flat_take_le _ _ _
theorem walk_I0 {g : List (El i64)} {a d : Nat} {p : Pos} (h1 : gAt (bump g a) a = gAt g a + 1) (h2 : ∀ i, i ≠ a → gAt (bump g a) i = gAt g i) : ∀ i, gAt (bump g a) i = gAt g i + (if i = a then 1 else if a < i ∧ i ≤ d then ((waysTo p (i - a - 1) 0).length : Int) else 0) := by
  intro i
  by_cases h : i = a
  · subst h; rw [if_pos rfl]; exact h1
  · rw [if_neg h, h2 i h]
    have : (waysTo p (i - a - 1) 0).length = 0 := by simp [waysTo]
    rw [this]; simp
theorem walk_I1 {g gj g2 : List (El i64)} {a d k1 j : Nat} {p : Pos} {q : Pos} (h1 : ∀ i, gAt gj i = gAt g i + (if i = a then 1 else if a < i ∧ i ≤ d then ((waysTo p (i - a - 1) j).length : Int) else 0))
    (h2 : ∀ i, gAt g2 i = gAt gj i + (if a + 1 ≤ i ∧ i ≤ d then ((waysP (i - (a + 1)) q).length : Int) else 0)) (h3 : ∀ i, waysTo p i (j + 1) = waysTo p i j ++ waysP i q) (h4 : a + (k1 + 1) = d) :
    ∀ i, gAt g2 i = gAt g i + (if i = a then 1 else if a < i ∧ i ≤ d then ((waysTo p (i - a - 1) (j + 1)).length : Int) else 0) := by
  intro i
  rw [h2 i, h1 i, h3 (i - a - 1), show i - (a + 1) = i - a - 1 by omega, List.length_append]
  by_cases e : i = a
  · rw [if_pos e, if_pos e, if_neg yo]; omega
  · rw [if_neg e, if_neg e]
    by_cases e2 : a < i ∧ i ≤ d
    · rw [if_pos e2, if_pos e2, if_pos yo]; omega
    · rw [if_neg e2, if_neg e2, if_neg yo]; omega
theorem walk_bnd {g gj : List (El i64)} {a d k1 j : Nat} {p q : Pos} (hb : ∀ i, i ≤ k1 + 1 → 0 ≤ gAt g (a + i) ∧ gAt g (a + i) + ((waysP i p).length : Int) ≤ 1000000) (h1 : ∀ i, gAt gj i = gAt g i + (if i = a then 1 else if a < i ∧ i ≤ d then ((waysTo p (i - a - 1) j).length : Int) else 0))
    (h3 : ∀ i, waysTo p i (j + 1) = waysTo p i j ++ waysP i q) (h5 : ∀ i, (waysTo p i (j + 1)).length ≤ (waysP (i + 1) p).length) (hk : a + (k1 + 1) = d) : ∀ i, i ≤ k1 → 0 ≤ gAt gj (a + 1 + i) ∧ gAt gj (a + 1 + i) + ((waysP i q).length : Int) ≤ 1000000 := by
  intro i hi
  have e1 := h1 (a + 1 + i)
  rw [if_neg yo, if_pos yo, show a + 1 + i - a - 1 = i by omega] at e1
  have e2 := hb (i + 1) yo
  rw [show a + (i + 1) = a + 1 + i by omega] at e2
  have e3 := h5 i
  rw [h3 i, List.length_append] at e3
  omega
theorem walk_q {qs : List Pos} {k1 j : Nat} {p q : Pos} (hq : qs.length + (waysP (k1 + 1) p).length ≤ 1000000) (h3 : ∀ i, waysTo p i (j + 1) = waysTo p i j ++ waysP i q) (h5 : ∀ i, (waysTo p i (j + 1)).length ≤ (waysP (i + 1) p).length) : (qs ++ waysTo p k1 j).length + (waysP k1 q).length ≤ 1000000 := by
  have e3 := h5 k1
  rw [h3 k1, List.length_append] at e3
  rw [List.length_append]; omega
theorem walk_A {g : List (El i64)} {a d : Nat} {p : Pos} (hk : a + 0 = d) (h1 : gAt (bump g a) a = gAt g a + 1) (h2 : ∀ i, i ≠ a → gAt (bump g a) i = gAt g i) : ∀ i, gAt (bump g a) i = gAt g i + (if a ≤ i ∧ i ≤ d then ((waysP (i - a) p).length : Int) else 0) := by
  intro i
  by_cases h : i = a
  · subst h; rw [if_pos yo, show i - i = 0 by omega]; exact h1
  · rw [if_neg yo, h2 i h]; omega
theorem walk_B {g : List (El i64)} {a d k1 : Nat} {p : Pos} (he : endedP p = true) (hk : a + (k1 + 1) = d) (h1 : gAt (bump g a) a = gAt g a + 1) (h2 : ∀ i, i ≠ a → gAt (bump g a) i = gAt g i) : ∀ i, gAt (bump g a) i = gAt g i + (if a ≤ i ∧ i ≤ d then ((waysP (i - a) p).length : Int) else 0) := by
  intro i
  by_cases h : i = a
  · subst h; rw [if_pos yo, show i - i = 0 by omega]; exact h1
  · rw [h2 i h]
    by_cases e : a ≤ i ∧ i ≤ d
    · rw [if_pos e, show i - a = (i - a - 1) + 1 by omega, waysP_e he]; simp
    · rw [if_neg e]; omega
theorem walk_C {g gj : List (El i64)} {a d k1 j : Nat} {p : Pos} (he : endedP p = false) (hk : a + (k1 + 1) = d) (h1 : ∀ i, gAt gj i = gAt g i + (if i = a then 1 else if a < i ∧ i ≤ d then ((waysTo p (i - a - 1) j).length : Int) else 0)) (hj : (legalL p).length ≤ j) : ∀ i, gAt gj i = gAt g i + (if a ≤ i ∧ i ≤ d then ((waysP (i - a) p).length : Int) else 0) := by
  intro i
  rw [h1 i]
  by_cases h : i = a
  · subst h; rw [if_pos rfl, if_pos yo, show i - i = 0 by omega]; rfl
  · rw [if_neg h]
    by_cases e : a < i ∧ i ≤ d
    · rw [if_pos e, if_pos yo, show i - a = (i - a - 1) + 1 by omega, waysP_n he, ← waysTo_all p (i - a - 1) hj]
      rw [show i - a - 1 + 1 - 1 = i - a - 1 by omega]
    · rw [if_neg e, if_neg yo]
def countP (p : Pos) (d : Int) : Int × Int := if (decide (d < 0) || decide (64 < d)) = true then (0, 2) else (((waysP d.toNat p).length : Int), 0)
theorem count_no {p : Pos} {d : Int} (h : (decide (d < 0) || decide (64 < d)) = true) : Value.tuple #[.int .i64 0, .int .i64 2] = .tuple #[.int .i64 (countP p d).1, .int .i64 (countP p d).2] := by unfold countP; rw [if_pos h]
theorem count_yes {p : Pos} {d : Nat} (h : (decide ((d : Int) < 0) || decide (64 < (d : Int))) = false) : Value.tuple #[.int .i64 ((waysP d p).length : Int), .int .i64 0] = .tuple #[.int .i64 (countP p (d : Int)).1, .int .i64 (countP p (d : Int)).2] := by unfold countP; rw [if_neg xasy]; rfl
theorem deep_nat {d : Int} (h : (decide (d < 0) || decide (64 < d)) = false) : ∃ n : Nat, d = (n : Int) ∧ n ≤ 64 := by
  simp only [Bool.or_eq_false_iff, decide_eq_false_iff_not] at h
  exact ⟨d.toNat, by omega, by omega⟩
theorem perm_last (a b c : Fact) (M : List Fact) : List.Perm (b :: c :: a :: M) (a :: b :: c :: M) := by
  refine (List.Perm.trans ?_ (List.Perm.swap a b _))
  exact (List.Perm.swap a c M).cons b
theorem c_perft_walker_walk (E : List Pos → List Fact) (M0 : List Fact) (cf : FuncId) (cv : List Value) (hcf : ∀ av w, (callFunc cf av).run Tryz.prog w = .ok (.enter cf av) w) (hTE : TAB ∈ M0) (hcb : ∀ (qs : List Pos) (q : Pos), POK q → qs.length < 1000000 → Con Tryz.prog cf (enc posT q :: cv) (E qs ++ M0) (fun _ M' => M' = E (qs ++ [q]) ++ M0)) (k : Nat) (ih : ∀ k1, k1 < k → WalkOK E M0 (.func (.func cf) #[] cv.toArray) k1) (p : Pos) (hp : POK p) (a d : Nat) (g : List (El i64)) (qs : List Pos) (bw : Nat) (hg : g.length = 65) (hk : a + k = d) (hd : d ≤ 64) (hbn : ∀ i, i ≤ k → 0 ≤ gAt g (a + i) ∧ gAt g (a + i) + ((waysP i p).length : Int) ≤ 1000000) (hqs : qs.length + (waysP k p).length ≤ 1000000) : Con Tryz.prog 68 [ptrv bw walkT [], enc posT p, .int .i64 (a : Int), .int .i64 (d : Int), (.func (.func cf) #[] cv.toArray)] (.box bw 89 walkT (g, ()) :: (E qs ++ M0)) (fun _ M' => ∃ g' : List (El i64), M' = .box bw 89 walkT (g', ()) :: (E (qs ++ waysP k p) ++ M0) ∧ g'.length = 65 ∧ ∀ i, gAt g' i = gAt g i + (if a ≤ i ∧ i ≤ d then ((waysP (i - a) p).length : Int) else 0)) := by
 obtain ⟨hb, hpw, hvr, htu, hpg, hvr0, htu0⟩ := hp.head
 have hTq : TAB ∈ E qs ++ M0 := List.mem_append.2 (.inr hTE)
 have hb0 := hbn 0 (Nat.zero_le _)
 have hgw : wf walkT (g, ()) := ⟨⟨hg, fun _ _ => trivial⟩, trivial⟩
 obtain ⟨hbl, hba, hbo⟩ := bump_spec g a hg yo
 have hga : @LE.le Int _ 0 (g.getD ((a : Nat) : Int).toNat (zero i64)) ∧ @LE.le Int _ (g.getD ((a : Nat) : Int).toNat (zero i64) + 1) 1000000 := hb0
 have hno : ¬ (1000000 : Int) < (bump g a).getD ((a : Nat) : Int).toNat (zero i64) := by have h1 : (bump g a).getD ((a : Nat) : Int).toNat (zero i64) = gAt g a + 1 := hba; rw [h1]; have := hb0.2; simp only [Nat.add_zero, waysP, List.length_singleton] at this; omega
 refine con_of_W (n := 62) Tryz.func68 rfl rfl yn ?_
 refine w2 (fun w0 => ?_)
 refine LO_l rfl (by decide : 6 < 62) (ol_box (t := posT) rfl rfl rfl yf (fun b1 => ?_))
 refine LO_nil (W_seq (W_regD (fun i => !Nat.beq i 10) mixed (fun w0 => ?_)))
 refine D_mem0 (i := 0) rfl yk yk rfl rfl yd (ov_move rfl rfl) ?_
 refine D_mem0 (i := 1) rfl yk yk rfl rfl yd (ov_move rfl rfl) ?_
 refine D_mem0 (i := 2) rfl yk yk rfl rfl yd (ov_nilptr rfl rfl) ?_
 refine D_mem0 (i := 3) rfl yk yk rfl rfl yd (ov_fieldAddr rfl rfl fa89_0 rfl) ?_
 refine D_mem0 (i := 4) rfl yk yk rfl rfl yd (ov_indexAddr rfl rfl rfl Tryz.underlying87 rfl Tryz.sizeOf3 ya ya) ?_
 refine D_mem0 (i := 5) rfl yk yk rfl rfl yd (ov_load rfl rfl ye ⟨⟨trivial, yn⟩, (tn ya ya)⟩ rfl rfl tok3) ?_
 refine D_mem0 (i := 6) rfl yk yk rfl rfl yd (ov_add rfl rfl rfl ya) ?_
 refine D_oneV (i := 7) rfl yk rfl rfl yd xaay (OpX.v (ov_nilptr rfl rfl)) ?_
 refine D_oneV (i := 8) rfl yk rfl rfl yd xaay (OpX.v (ov_fieldAddr rfl rfl fa89_0 rfl)) ?_
 refine D_oneV (i := 9) rfl yk rfl rfl yd xaay (OpX.v (ov_indexAddr rfl rfl rfl Tryz.underlying87 rfl Tryz.sizeOf3 ya ya)) ?_
 refine D_one (i := 10) rfl yk rfl trivial (ol_st1 rfl rfl rfl ⟨⟨trivial, yn⟩, (tn ya ya)⟩ rfl yf tok3 ⟨xaay, ?_⟩)
 refine D_end yk ?_
 refine W_seq (w1 ((yM ?_)))
 refine yM ?_
 refine yR (ov_nilptr rfl rfl) ?_
 refine yR (ov_fieldAddr rfl rfl fa89_0 rfl) ?_
 refine yR (ov_indexAddr rfl rfl rfl Tryz.underlying87 rfl Tryz.sizeOf3 ya ya) ?_
 refine yR (ov_load rfl rfl ye ⟨⟨trivial, yn⟩, (tn ya ya)⟩ rfl rfl tok3) ?_
 refine yR (ov_gtr rfl rfl rfl) ?_
 refine RO_nil (W_condf (congrArg (fun b => some (Value.bool b)) (decide_eq_false hno)) ?_)
 refine W_skip (W_seq (w1 ((yM ?_))))
 refine yM ?_
 refine yR (ov_eql rfl rfl rfl) ?_
 refine RO_nil (W_cond rfl (fun hc2 => ?_) (fun hc2 => ?_))
 ·
  try simp only [yS] at hc2
  have hk0 : k = 0 := by omega
  subst hk0
  have hqs0 : qs.length < 1000000 := by simp only [waysP, List.length_singleton] at hqs; omega
  refine w2 (fun w0 => ?_)
  refine zM ?_
  refine yL (ov_load rfl rfl ye trivial rfl rfl tok31) ?_
  refine LO_l rfl (by decide : 38 < 62) (ol_call  rfl rfl rfl hcf (Con.mono (Con.frame (A := [_, _]) (hcb qs p hp hqs0)) ?_))
  rintro _ _ ⟨_, rfl, rfl⟩
  refine LO_nil (W_ret ⟨trivial, _, _, (ResV_none rfl), (by first | exact ((List.Sublist.refl (Fact.box bw _ _ _ :: _)).cons _).cons _ | exact (List.Sublist.refl (Fact.box bw _ _ _ :: _)).cons _), ?_⟩)
  exact xbny
 ·
  try simp only [yS] at hc2
  obtain ⟨k1, rfl⟩ : ∃ k1, k = k1 + 1 := ⟨k - 1, by omega⟩
  refine W_skip (W_seq (w1 ((yR (ov_load rfl rfl ye trivial rfl rfl tok31) ?_))))
  refine yP (yV rfl rfl rfl Tryz.call33 (by apply c_outcome_Ended <;> exact yz)) ?_
  refine RO_nil (W_cond rfl (fun hc3 => ?_) (fun hc3 => ?_))
  ·
   refine W_ret ⟨trivial, _, _, (ResV_none rfl), (by first | exact ((List.Sublist.refl (Fact.box bw _ _ _ :: _)).cons _).cons _ | exact (List.Sublist.refl (Fact.box bw _ _ _ :: _)).cons _), ?_⟩
   exact xbny
  ·
   have hll := legalL_len p
   refine W_skip (w2 (fun w0 => ?_))
   refine yL (ov_load rfl rfl ye trivial rfl rfl tok31) ?_
   refine LO_l rfl (by decide : 42 < 62) (ol_call (v0 := []) (v2 := []) rfl rfl rfl Tryz.call15 (Con.mono (by apply c_legal_List <;> exact yz) ?_))
   rintro vL _ rfl
   refine yL (ov_len rfl rfl xaby Tryz.underlying48) ?_
   refine zM ?_
   refine LO_nil (W_block (W_loop (σ := Nat × List (El i64)) (fun s => s.1 ≤ (legalL p).length ∧ s.2.length = 65 ∧ ∀ i, gAt s.2 i = gAt g i + (if i = a then 1 else if a < i ∧ i ≤ d then ((waysTo p (i - a - 1) s.1).length : Int) else 0)) (fun s => [(0, ptrv bw walkT []), (2, .int .i64 (a : Int)), (3, .int .i64 (d : Int)), (4, (.func (.func cf) #[] cv.toArray)), (6, ptrv b1 posT []), (42, vL), (43, .int .i64 ((legalL p).length : Int)), (44, .int .i64 (s.1 : Int))]) (fun s => .row vL 55 moveT (legalL p) :: .box b1 31 posT p :: .box bw 89 walkT (s.2, ()) :: (E (qs ++ waysTo p k1 s.1) ++ M0)) (fun s => (legalL p).length - s.1) ((0, bump g a)) ⟨by simp, hbl, walk_I0 hba hbo⟩ ⟨rfl, rfl, rfl, rfl, rfl, rfl, rfl, rfl, trivial⟩ (by show List.Sublist (_ :: _ :: _ :: (E (qs ++ []) ++ M0)) _; rw [List.append_nil]; exact yb) ?_))
   rintro ⟨j, gj⟩ ⟨hj, hgl, hgs⟩
   simp only at hj hgl hgs
   refine w1 ((yR (ov_lss rfl rfl rfl) ?_))
   refine RO_nil (W_seq (W_cond rfl (fun hc4 => ?_) (fun hc4 => ?_)))
   ·
    try simp only [yS] at hc4
    have hmj := legalL_at p (j := j) yo
    have hok := legal_ok hp hmj
    have hokw := hok.wf
    have hmm := allL_mok hp (legalL_mem hmj)
    have hTj : TAB ∈ E (qs ++ waysTo p k1 j) ++ M0 := List.mem_append.2 (.inr hTE)
    have hwn := fun i => waysTo_next p i (j := j) yo
    have hwb := fun i => waysTo_le p i (j + 1) hc3
    refine W_skip (W_seq (W_block (w2 (fun w0 => ?_))))
    refine yL (ov_indexAddr_sl (t := moveT) rfl rfl xaby rfl Tryz.underlying48 Tryz.sizeOf55 ya ya) ?_
    refine yL (ov_load_e (t := moveT) (p := []) rfl rfl xaby ya trivial rfl rfl tok55) ?_
    refine LO_l rfl (by decide : 11 < 62) (ol_alloc (t := moveT) rfl tok55 yf (fun b2 => ?_))
    refine LO_l rfl trivial (ol_sw0 rfl rfl rfl rfl yf tok55 ?_)
    refine LO_nil (w2 (fun w0 => ?_))
    refine yL (ov_load rfl rfl ye trivial rfl rfl tok31) ?_
    refine yL (ov_load rfl rfl ye trivial rfl rfl tok55) ?_
    refine yQ (yV rfl rfl rfl Tryz.call19 (c_after_Move p hp ((legalL p).getD ((j : Nat) : Int).toNat (zero moveT)) hmm _ ye)) ?_
    refine zM ?_
    refine yL (ov_extract rfl rfl rfl) ?_
    refine yL (ov_extract rfl rfl rfl) ?_
    refine LO_l rfl (by decide : 12 < 62) (ol_alloc (t := posT) rfl tok31 yf (fun b3 => ?_))
    refine LO_l rfl trivial (ol_sw0 rfl rfl rfl rfl yf tok31 ?_)
    refine zA ?_
    refine LO_nil (W_regl (fun w0 => ?_))
    refine zM ?_
    refine yL (ov_load rfl rfl ye trivial rfl rfl tok31) ?_
    refine zM ?_
    refine yL (ov_add rfl rfl rfl ya) ?_
    refine zM ?_
    refine zM ?_
    refine LO_l rfl (by decide : 60 < 62) (ol_call (v0 := []) (v2 := []) rfl rfl rfl Tryz.call68 (Con.mono (Con.frame (A := [_, _, _, _]) (ih k1 (Nat.lt_succ_self _) (moveP p ((legalL p).getD ((j : Nat) : Int).toNat (zero moveT))).1 hok (a + 1) d gj (qs ++ waysTo p k1 j) bw hgl yo hd (walk_bnd hbn hgs hwn hwb yo) (walk_q hqs hwn hwb))) ?_))
    rintro _ _ ⟨_, rfl, g2, rfl, hgl2, hgs2⟩
    refine LO_nil (W_reg (yR (ov_add rfl rfl rfl ya) ?_))
    refine yM ?_
    refine RO_nil ?_
    exact ⟨(j + 1, g2), xaly, ⟨by simp only; omega, hgl2, walk_I1 hgs hgs2 hwn yo⟩, ⟨rfl, rfl, rfl, rfl, rfl, rfl, rfl, rfl, trivial⟩, (by show List.Sublist (_ :: _ :: _ :: (E (qs ++ waysTo p k1 (j + 1)) ++ M0)) _; rw [hwn k1, ← List.append_assoc]; exact yb)⟩
   ·
    try simp only [yS] at hc4
    refine W_exit ⟨trivial, _, _, (ResV_none rfl), (by first | exact ((List.Sublist.refl (Fact.box bw _ _ _ :: _)).cons _).cons _ | exact (List.Sublist.refl (Fact.box bw _ _ _ :: _)).cons _), ?_⟩
    exact xbny

theorem walk_all (E : List Pos → List Fact) (M0 : List Fact) (cf : FuncId) (cv : List Value) (hcf : ∀ av w, (callFunc cf av).run Tryz.prog w = .ok (.enter cf av) w) (hTE : TAB ∈ M0) (hcb : ∀ (qs : List Pos) (q : Pos), POK q → qs.length < 1000000 → Con Tryz.prog cf (enc posT q :: cv) (E qs ++ M0) (fun _ M' => M' = E (qs ++ [q]) ++ M0)) : ∀ k, WalkOK E M0 (.func (.func cf) #[] cv.toArray) k := fun k => by
  induction k using Nat.strongRecOn with
  | _ k ih => exact fun p hp a d g qs bw hg hk hd hbn hqs => c_perft_walker_walk E M0 cf cv hcf hTE hcb k ih p hp a d g qs bw hg hk hd hbn hqs
theorem gAt_zero (i : Nat) : gAt (zero (.ar 65 i64)) i = 0 := by
  show (List.replicate 65 (0 : Int)).getD i 0 = 0
  rw [List.getD_eq_getElem?_getD, List.getElem?_replicate]; split <;> rfl
theorem idle67 (x : Value) (w : World) : CallsDIn (fen none) 0 Tryz.prog 67 #[x] .returning w fun e u' w' => e = .returned (.tuple #[]) ∧ u' = .returning ∧ w' = w := by
  refine callsDIn_of_wpSIn Tryz.func67 rfl trivial fun c₀ cs hu => ?_
  apply wpSIn_seq
  apply wpSIn_region
  simp [wpOpsSIn, recoverD, hu, Exit.thenS, execOp, Region.wanted, resolve, invoke, builtin]
  refine ⟨fun _ _ => trivial, wpSIn_of_wpIn rfl ?_⟩
  apply wpIn_block
  apply wpIn_seq
  apply wpIn_region
  have h1 : (eqGuard .eql 20 (.tmp 4) (.const .nilIface) .nilIface .nilIface).run Tryz.prog w = .ok () w := by simp [eqGuard]
  have h2 : (Op.equal 20 .nilIface .nilIface).run Tryz.prog w = .ok true w := by
    have hd : ∀ d, (Op.equalIn (d + 1) 20 .nilIface .nilIface).run Tryz.prog w = .ok true w := fun d => by
      simp [Op.equalIn, run_underlying Tryz.underlying20]
    exact hd 9999
  have h3 : (binOp .eql 20 .nilIface .nilIface).run Tryz.prog w = .ok (.bool true) w := by
    simp only [binOp]; simp [h2]
  simp [wpOpsIn, Region.wanted]
  refine ⟨fun _ _ => trivial, ?_⟩
  generalize ha : ({ tmps := #[x] ++ Array.replicate 9 undef, defers := [] } : Act).put (some 4) .nilIface = a0
  have ev : a0.eval (.tmp 4) = .nilIface := by rw [← ha]; rfl
  have hr : (Oper.semAt (fen none).round a0.eval { dst := some 6, op := .binOp .eql 20 (.tmp 4) (.const .nilIface) 20, type := 4, pos := "perft.go:42", after := #[], guard := none }).run Tryz.prog w = .ok (.value (.bool true)) w := by
    rw [semAt_of rfl]
    unfold execOp
    simp only [ev]
    show ((do pure (Next.value (← (do eqGuard .eql 20 (.tmp 4) (.const .nilIface) .nilIface .nilIface; binOp .eql 20 .nilIface .nilIface)))) : Sem Next).run Tryz.prog w = _
    simp only [Sem.run_bind, h1, h3, Result.andThen_ok, Sem.run_pure]
  rw [hr, Oper.uponIn_value]
  show (Code.cond _ _ _).wpIn _ _ _ _ _ _
  refine wpIn_cond_true (by rw [← ha]; rfl) ?_
  apply wpIn_region
  simp [wpOpsIn, Region.wanted]
  refine ⟨fun _ _ => trivial, ?_⟩
  rw [semAt_of rfl]
  unfold execOp
  simp only [Sem.run_pure, Oper.uponIn_value]
  refine ⟨by rw [← ha]; rfl, .returning, by cases c₀; simp_all, .tuple #[], ?_, rfl, rfl, rfl⟩
  simp [results, Tryz.f67]


theorem c_perft_all (E : List Pos → List Fact) (M0 : List Fact) (cf : FuncId) (cv : List Value) (hcf : ∀ av w, (callFunc cf av).run Tryz.prog w = .ok (.enter cf av) w) (hTE : TAB ∈ M0) (hcb : ∀ (qs : List Pos) (q : Pos), POK q → qs.length < 1000000 → Con Tryz.prog cf (enc posT q :: cv) (E qs ++ M0) (fun _ M' => M' = E (qs ++ [q]) ++ M0)) (p : Pos) (hp : POK p) (d : Nat) (hd : d ≤ 64) (hbn : ∀ i, i ≤ d → ((waysP i p).length : Int) ≤ 1000000) : Con Tryz.prog 26 [enc posT p, .int .i64 (d : Int), (.func (.func cf) #[] cv.toArray)] (E [] ++ M0) (fun v M' => v = .int .i64 0 ∧ M' = E (waysP d p) ++ M0) := by
 obtain ⟨hb, hpw, hvr, htu, hpg, hvr0, htu0⟩ := hp.head
 have hTq : TAB ∈ E [] ++ M0 := List.mem_append.2 (.inr hTE)
 refine con_of_Gd (n := 13) Tryz.func26 rfl rfl yn Tryz.call67 idle67 ?_
 refine G_seq (G_regl (fun w0 => ?_))
 refine GO_l rfl (by decide : 3 < 13) (ol_box (t := posT) rfl rfl rfl yf (fun b1 => ?_))
 refine GO_l rfl (by decide : 6 < 13) (ol_alloc (t := i64) rfl tok34 yf (fun b2 => ?_))
 refine GO_nil (G_seq (G_def rfl rfl yd (ov_makeFunc rfl rfl rfl) rfl rfl rfl rfl ?_))
 refine G_seq (G_regl (fun w0 => ?_))
 refine GO_l rfl (by decide : 8 < 13) (ol_alloc (t := walkT) rfl tok89 yf (fun b3 => ?_))
 refine GO_perm (M1 := .box b2 34 i64 (zero i64) :: .box b1 31 posT p :: .box b3 89 walkT (zero walkT) :: (E [] ++ M0)) (perm_last _ _ _ _) ?_
 refine GO_op rfl rfl yd (OpX.v (ov_load rfl rfl ye trivial rfl rfl tok31)) ?_
 refine GO_op rfl rfl yd (OpX.v (ov_move rfl rfl)) ?_
 refine GO_op rfl rfl yd (OpX.v (ov_move rfl rfl)) ?_
 refine GO_l rfl (by decide : 12 < 13) (ol_call (v0 := []) (v2 := []) rfl rfl rfl Tryz.call68 (Con.mono (Con.frame (A := [_, _]) (by have h := walk_all E M0 cf cv hcf hTE hcb d p hp 0 d (zero (.ar 65 i64)) [] b3 rfl yo hd (fun i hi => by rw [gAt_zero]; have := hbn i hi; omega) (by have := hbn d (Nat.le_refl _); simp only [List.length_nil]; omega); exact h)) ?_))
 rintro _ _ ⟨_, rfl, g2, rfl, _, _⟩
 refine GO_nil (G_seq (G_regl (fun w0 => ?_)))
 refine GO_l rfl trivial (ol_sw0 rfl rfl rfl rfl yf tok34 ?_)
 refine GO_nil (G_ret ?_)
 refine ⟨trivial, _, rfl, _, _, (ResV_cell rfl rfl ye rfl tok34 rfl), (by first | exact ((List.Sublist.refl (_ ++ M0)).cons _).cons _ | exact (((List.Sublist.refl (_ ++ M0)).cons _).cons _).cons _), rfl, rfl⟩

theorem c_perft_Count_1 (q : Pos) (hq : POK q) (x : Int) (bc : Nat) (M : List Fact) (h0 : 0 ≤ x) (h1 : x ≤ 1000000) : Con Tryz.prog 27 [enc posT q, ptrv bc i64 []] (.box bc 3 i64 x :: M) (fun _ M' => M' = .box bc 3 i64 (x + 1) :: M) := by
 have hpw := hq.wf
 refine con_of_W (n := 5) Tryz.func27 rfl rfl yn ?_
 refine w2 (fun w0 => ?_)
 refine LO_l rfl (by decide : 2 < 5) (ol_box (t := posT) rfl rfl rfl yf (fun b1 => ?_))
 refine LO_nil (W_regl (fun w0 => ?_))
 refine yL (ov_load rfl rfl ye trivial rfl rfl tok3) ?_
 refine yL (ov_add rfl rfl rfl ya) ?_
 refine LO_l rfl trivial (ol_sw1 rfl rfl rfl rfl yf tok3 ?_)
 refine LO_nil ⟨trivial, _, .box bc 3 i64 (x + 1) :: M, (ResV_none rfl), ?_, rfl⟩
 exact yb

theorem c_perft_Count (p : Pos) (hp : POK p) (d : Int) (M : List Fact) (hT : TAB ∈ M) (h0 : -9223372036854775808 ≤ d) (hbn : ∀ i : Nat, (i : Int) ≤ d → d ≤ 64 → ((waysP i p).length : Int) ≤ 1000000) : Pure Tryz.prog 8 [enc posT p, .int .i64 d] M (.tuple #[.int .i64 (countP p d).1, .int .i64 (countP p d).2]) := by
 obtain ⟨hb, hpw, hvr, htu, hpg, hvr0, htu0⟩ := hp.head
 refine pure_of_W (n := 22) Tryz.func8 rfl rfl yn ?_
 refine w2 (fun w0 => ?_)
 refine LO_l rfl (by decide : 2 < 22) (ol_box (t := posT) rfl rfl rfl yf (fun b1 => ?_))
 refine zA ?_
 refine zA ?_
 refine LO_nil (W_seq (w1 ((yM ?_))))
 refine yR (ov_lss rfl rfl rfl) ?_
 refine yM ?_
 refine gM ?_
 refine yG (fun hg => OpX.v (ov_gtr rfl (look_gv rfl (bq hg)) rfl)) ?_
 refine yR (ov_or rfl rfl rfl rfl (fun h => bq h)) ?_
 refine RO_nil (W_cond rfl (fun hc1 => ?_) (fun hc1 => ?_))
 ·
  refine w1 ((yA_ ?_))
  refine yA_ ?_
  refine RO_nil (W_ret ⟨trivial, yb, (ResV_tmp2q rfl rfl rfl ?_)⟩)
  first | exact count_no hc1 | exact count_yes hc1
 ·
  obtain ⟨dn, rfl, hdn⟩ := deep_nat hc1
  have hcn := hbn dn (Int.le_refl _) yo
  refine W_skip (w2 (fun w0 => ?_))
  refine LO_l rfl (by decide : 6 < 22) (ol_alloc (t := i64) rfl tok3 yf (fun b2 => ?_))
  refine LO_l rfl trivial (ol_sw0 rfl rfl rfl rfl yf tok3 ?_)
  refine LO_nil (W_seq (w2 (fun w0 => ?_)))
  refine yL (ov_load rfl rfl ye trivial rfl rfl tok31) ?_
  refine zM ?_
  refine yL (ov_makeFunc rfl rfl rfl) ?_
  refine LO_l rfl (by decide : 17 < 22) (ol_call (v0 := []) (v2 := []) rfl rfl rfl Tryz.call26 (Con.mono (c_perft_all (fun qs => ([.box b2 3 i64 (qs.length : Int)] : List Fact)) (Fact.box b1 31 posT p :: M) 27 [ptrv b2 i64 []] Tryz.call27 (.tail _ hT) (fun qs q hq hl => by have h := c_perft_Count_1 q hq (qs.length : Int) b2 (Fact.box b1 31 posT p :: M) yo yo; refine Con.mono h ?_; rintro v M1 rfl; show _ = Fact.box b2 3 i64 (((qs ++ [q]).length : Nat) : Int) :: _; rw [List.length_append]; rfl) p hp dn hdn (fun i hi => hbn i yo yo)) ?_))
  rintro _ _ ⟨rfl, rfl⟩
  refine zA ?_
  refine LO_nil (w1 ((yM ?_)))
  refine yR (ov_neq rfl rfl rfl) ?_
  refine RO_nil (W_condf rfl ?_)
  refine W_skip (w1 ((yR (ov_load rfl rfl ye trivial rfl rfl tok3) ?_)))
  refine yA_ ?_
  refine yA_ ?_
  refine RO_nil (W_ret ⟨trivial, yb, (ResV_tmp2q rfl rfl rfl ?_)⟩)
  first | exact count_no hc1 | exact count_yes hc1

end Go.Kw
set_option linter.unusedVariables false
namespace Go.Kw
open Go.Proofs
theorem tok82 : TyOK Tryz.prog 82 (.ar 8 u8) := ⟨Tryz.isAgg82, Tryz.sizeOf82, Tryz.zeroValue82⟩
theorem bl28 : BuildOKa Tryz.prog 28 2 (.ar 2 i8) := ⟨_, _, _, rfl, rfl, Tryz.underlying28, rfl, rfl⟩
abbrev fs30 : List Ty := [u8, (.ar 64 u8), u64, (.ar 2 (.ar 6 u8)), u8, (.ar 2 (.ar 2 i8)), i8, (.ar 2 u8), i64, i64]
theorem bl31 : BuildOK Tryz.prog 31 fs30 := ⟨_, _, rfl, rfl, Tryz.underlying31, by kernel_rfl⟩
theorem bl82 : BuildOKa Tryz.prog 82 8 u8 := ⟨_, _, _, rfl, rfl, Tryz.underlying82, rfl, rfl⟩

def noneP (v : Int) : Pos := (v, (zero (.ar 64 u8) : List (El u8)), (0#64 : BitVec 64), (zero (.ar 2 (.ar 6 u8)) : List (List (El u8))), (0 : Int), ([[-1, -1], [-1, -1]] : List (List Int)), (-1 : Int), (zero (.ar 2 u8) : List (El u8)), (0 : Int), (1 : Int), ())
def chessL : List (El u8) := ([4, 2, 3, 5, 6, 3, 2, 4] : List Int)
theorem chess_rng : ∀ i, 0 ≤ (show List Int from chessL).getD i 0 ∧ (show List Int from chessL).getD i 0 ≤ 7 := fun i => by
  by_cases h : i < 8
  · have : ∀ j : Fin 8, 0 ≤ ([4, 2, 3, 5, 6, 3, 2, 4] : List Int).getD j.val 0 ∧ ([4, 2, 3, 5, 6, 3, 2, 4] : List Int).getD j.val 0 ≤ 7 := by decide
    exact this ⟨i, h⟩
  · show 0 ≤ ([4, 2, 3, 5, 6, 3, 2, 4] : List Int).getD i 0 ∧ ([4, 2, 3, 5, 6, 3, 2, 4] : List Int).getD i 0 ≤ 7
    rw [List.getD_eq_getElem?_getD, List.getElem?_eq_none (by simp; omega)]; simp
def both1 (p : Pos) (l : List (El u8)) (i : Nat) : Pos := putB (putB (putB (putB p (i : Int) (l.getD ((i : Nat) : Int).toNat (zero u8))) (8 + (i : Int)) 1) (56 + (i : Int)) (8 + l.getD ((i : Nat) : Int).toNat (zero u8))) (48 + (i : Int)) (8 + 1)
def sideN (p : Pos) : Int := if rkAt p 0 1 < 0 then 1 else 0
def both2 (p : Pos) (i : Nat) : Pos := setRk (setRk p 0 (sideN p) (i : Int)) 1 (sideN p) (i : Int)
def bothJ (v : Int) (l : List (El u8)) : Nat → Pos
  | 0 => noneP v
  | i + 1 => if (castlesP v && decide ((show Int from l.getD ((i : Nat) : Int).toNat (zero u8)) = 4)) = true then both2 (both1 (bothJ v l i) l i) i else both1 (bothJ v l i) l i
theorem bothJ_yes {v : Int} {l : List (El u8)} {i : Nat} (h : (castlesP v && decide ((show Int from l.getD ((i : Nat) : Int).toNat (zero u8)) = 4)) = true) : bothJ v l (i + 1) = both2 (both1 (bothJ v l i) l i) i := by rw [bothJ, if_pos h]
theorem bothJ_no {v : Int} {l : List (El u8)} {i : Nat} (h : (castlesP v && decide ((show Int from l.getD ((i : Nat) : Int).toNat (zero u8)) = 4)) = false) : bothJ v l (i + 1) = both1 (bothJ v l i) l i := by rw [bothJ, if_neg xasy]
theorem sideN_rng (p : Pos) : 0 ≤ sideN p ∧ sideN p ≤ 1 := by unfold sideN; split <;> omega
theorem rep_getD (n : Nat) (x : Int) (i : Nat) (hx : x = 0) : (List.replicate n x).getD i 0 = 0 := by
  subst hx; rw [List.getD_eq_getElem?_getD, List.getElem?_replicate]; split <;> rfl
theorem POK_none {v : Int} (h0 : 0 ≤ v) (h1 : v ≤ 255) : POK (noneP v) := by
  refine ⟨⟨trivial, wf_zero (.ar 64 u8), trivial, wf_zero (.ar 2 (.ar 6 u8)), trivial, wf_of_q rfl, trivial, wf_zero (.ar 2 u8), trivial, trivial, trivial⟩, fun i => ?_, ⟨h0, h1⟩, ⟨by show (0 : Int) ≤ 0; decide, by show (0 : Int) ≤ 255; decide⟩, ⟨by show (-128 : Int) ≤ -1; decide, by show (-1 : Int) ≤ 127; decide⟩, ⟨by show (-9223372036854775808 : Int) ≤ 0; decide, by show (0 : Int) ≤ 9223372036854775807; decide⟩, ⟨by show (-9223372036854775808 : Int) ≤ 1; decide, by show (1 : Int) ≤ 9223372036854775807; decide⟩, fun c k => ?_, fun c k => ?_, fun c => ?_⟩
  · show 0 ≤ (List.replicate 64 (0 : Int)).getD i 0 ∧ (List.replicate 64 (0 : Int)).getD i 0 ≤ 255
    rw [rep_getD _ _ _ rfl]; decide
  · show 0 ≤ ((List.replicate 2 (List.replicate 6 (0 : Int))).getD c []).getD k 0 ∧ ((List.replicate 2 (List.replicate 6 (0 : Int))).getD c []).getD k 0 ≤ 255
    rw [List.getD_eq_getElem?_getD (l := List.replicate 2 _), List.getElem?_replicate]
    split
    · show 0 ≤ (List.replicate 6 (0 : Int)).getD k 0 ∧ (List.replicate 6 (0 : Int)).getD k 0 ≤ 255
      rw [rep_getD _ _ _ rfl]; decide
    · simp
  · show -128 ≤ (([[-1, -1], [-1, -1]] : List (List Int)).getD c []).getD k 0 ∧ (([[-1, -1], [-1, -1]] : List (List Int)).getD c []).getD k 0 ≤ 127
    have hr : ∀ k : Nat, -128 ≤ ([-1, -1] : List Int).getD k 0 ∧ ([-1, -1] : List Int).getD k 0 ≤ 127 := fun k => by
      match k with
      | 0 => decide
      | 1 => decide
      | k + 2 => exact ⟨by show (-128 : Int) ≤ 0; decide, by show (0 : Int) ≤ 127; decide⟩
    match c with
    | 0 => exact hr k
    | 1 => exact hr k
    | c + 2 => exact ⟨by show (-128 : Int) ≤ 0; decide, by show (0 : Int) ≤ 127; decide⟩
  · show 0 ≤ (List.replicate 2 (0 : Int)).getD c 0 ∧ (List.replicate 2 (0 : Int)).getD c 0 ≤ 255
    rw [rep_getD _ _ _ rfl]; decide
theorem POK_both1 {p : Pos} (hp : POK p) {l : List (El u8)} (hlr : ∀ i, 0 ≤ (show List Int from l).getD i 0 ∧ (show List Int from l).getD i 0 ≤ 7) (i : Nat) : POK (both1 p l i) := by
  have h : 0 ≤ (show Int from l.getD ((i : Nat) : Int).toNat (zero u8)) ∧ (show Int from l.getD ((i : Nat) : Int).toNat (zero u8)) ≤ 7 := hlr i
  exact POK_put (POK_put (POK_put (POK_put hp _ h.1 (Int.le_trans h.2 yd)) _ yd yd) _ (Int.add_nonneg yd h.1) (by have := h.2; show 8 + (show Int from l.getD ((i : Nat) : Int).toNat (zero u8)) ≤ 255; omega)) _ yd yd
theorem POK_bothJ {v : Int} (h0 : 0 ≤ v) (h1 : v ≤ 255) {l : List (El u8)} (hlr : ∀ i, 0 ≤ (show List Int from l).getD i 0 ∧ (show List Int from l).getD i 0 ≤ 7) : ∀ i, i ≤ 8 → POK (bothJ v l i)
  | 0, _ => POK_none h0 h1
  | i + 1, h => by
    have ih := POK_both1 (POK_bothJ h0 h1 hlr i yo) hlr i
    rw [bothJ]; split
    · exact POK_setRk (POK_setRk ih _ _ yo yo) _ _ yo yo
    · exact ih
def startP : Pos := bothJ 0 chessL 8
theorem startP_ok : POK startP := POK_bothJ yd yd chess_rng 8 (Nat.le_refl _)

theorem c_rules_none (v : Int) (M : List Fact) : Pure Tryz.prog 136 [.int .u8 v] M (enc posT (noneP v)) := by
 have hw1 : wf (.ar 2 i8) ([-1, -1] : List Int) := ⟨rfl, fun _ _ => trivial⟩
 have hw2 : wf (.ar 2 (.ar 2 i8)) ([[-1, -1], [-1, -1]] : List (List Int)) := wf_of_q rfl
 refine pure_of_W (n := 8) Tryz.func136 rfl rfl yn ?_
 refine w2 (fun w0 => ?_)
 refine LO_l rfl (by decide : 2 < 8) (ol_alloc (t := posT) rfl tok31 yf (fun b1 => ?_))
 refine LO_nil (w2 (fun w0 => ?_))
 refine zM ?_
 refine yL (ov_buildA (t := i8) (ds := [(0, _), (1, _)]) rfl rfl bl27 ⟨yn, yf, ⟨yn, yf, trivial⟩⟩ rfl) ?_
 refine yL (ov_buildA (t := i8) (ds := [(0, _), (1, _)]) rfl rfl bl27 ⟨yn, yf, ⟨yn, yf, trivial⟩⟩ rfl) ?_
 refine yL (ov_buildA (t := (.ar 2 i8)) (ds := [(0, _), (1, _)]) rfl rfl bl28 ⟨yn, yf, ⟨yn, yf, trivial⟩⟩ rfl) ?_
 refine yL (ov_build (fs := fs30) (ds := [⟨0, _⟩, ⟨6, _⟩, ⟨9, _⟩, ⟨5, _⟩]) rfl rfl bl31 ⟨yn, yf, ⟨yn, yf, ⟨yn, yf, ⟨yn, yf, trivial⟩⟩⟩⟩ rfl) ?_
 refine LO_l rfl trivial (ol_sw0 rfl rfl rfl rfl yf tok31 ?_)
 refine LO_nil (W_ret ⟨trivial, yb, (ResV_cell rfl rfl ye rfl tok31 ?_)⟩)
 rfl

theorem c_rules_black (kd : Int) (M : List Fact) (h0 : 0 ≤ kd) (h1 : kd ≤ 7) : Pure Tryz.prog 137 [.int .u8 kd] M (.int .u8 (8 + kd)) := by
 refine pure_of_W (n := 5) Tryz.func137 rfl rfl yn ?_
 refine w1 ((yA_ ?_))
 refine RO_nil (w1 ((yM ?_)))
 refine yR (ov_add rfl rfl rfl ya) ?_
 refine yA_ ?_
 refine RO_nil (W_ret ⟨trivial, yb, (ResV_tmp1 rfl rfl ?_)⟩)
 rfl

theorem c_rules_chess (M : List Fact) : Pure Tryz.prog 66 [] M (enc (.ar 8 u8) chessL) := by
 refine pure_of_W (n := 2) Tryz.func66 rfl rfl yn ?_
 refine w2 (fun w0 => ?_)
 refine LO_l rfl (by decide : 0 < 2) (ol_alloc (t := (.ar 8 u8)) rfl tok82 yf (fun b1 => ?_))
 refine LO_nil (w2 (fun w0 => ?_))
 refine yL (ov_buildA (t := u8) (ds := [(0, _), (1, _), (2, _), (3, _), (4, _), (5, _), (6, _), (7, _)]) rfl rfl bl82 ⟨yn, yf, ⟨yn, yf, ⟨yn, yf, ⟨yn, yf, ⟨yn, yf, ⟨yn, yf, ⟨yn, yf, ⟨yn, yf, trivial⟩⟩⟩⟩⟩⟩⟩⟩ rfl) ?_
 refine LO_l rfl trivial (ol_sw0 rfl rfl rfl rfl yf tok82 ?_)
 refine LO_nil (W_ret ⟨trivial, yb, (ResV_cell rfl rfl ye rfl tok82 ?_)⟩)
 rfl

theorem c_rules_both (v : Int) (l : List (El u8)) (M : List Fact) (h0 : 0 ≤ v) (h1 : v ≤ 255) (hl : l.length = 8) (hlr : ∀ i, 0 ≤ (show List Int from l).getD i 0 ∧ (show List Int from l).getD i 0 ≤ 7) : Pure Tryz.prog 65 [.int .u8 v, enc (.ar 8 u8) l] M (enc posT (bothJ v l 8)) := by
 have hlw : wf (.ar 8 u8) l := ⟨hl, fun _ _ => trivial⟩
 have hnw := (POK_none h0 h1).wf
 refine pure_of_W (n := 60) Tryz.func65 rfl rfl yn ?_
 refine w2 (fun w0 => ?_)
 refine LO_l rfl (by decide : 3 < 60) (ol_box (t := (.ar 8 u8)) rfl rfl rfl yf (fun b1 => ?_))
 refine LO_l rfl (by decide : 4 < 60) (ol_alloc (t := posT) rfl tok31 yf (fun b2 => ?_))
 refine LO_nil (w2 (fun w0 => ?_))
 refine zM ?_
 refine yQ (yV rfl rfl rfl Tryz.call136 (by apply c_rules_none <;> exact yz)) ?_
 refine LO_l rfl (by decide : 5 < 60) (ol_alloc (t := posT) rfl tok31 yf (fun b3 => ?_))
 refine LO_l rfl trivial (ol_sw0 rfl rfl rfl rfl yf tok31 ?_)
 refine LO_nil (W_seq (w1 ((yR (ov_load rfl rfl ye trivial rfl rfl tok82) ?_))))
 refine yM ?_
 refine RO_nil (W_block (W_loop (σ := Nat) (fun s5 => s5 ≤ 8) (fun s5 => [(4, ptrv b2 posT []), (5, ptrv b3 posT []), (0, .int .u8 v), (11, enc (.ar 8 u8) l), (12, .int .i64 (s5 : Int))]) (fun s5 => .box b3 31 posT (bothJ v l s5) :: .box b2 31 posT (zero posT) :: .box b1 82 (.ar 8 u8) l :: M) (fun s5 => 8 - s5) (0) (by simp) ⟨rfl, rfl, rfl, rfl, rfl, trivial⟩ yb ?_))
 rintro i hI
 refine w1 ((yR (ov_lss rfl rfl rfl) ?_))
 refine RO_nil (W_seq (W_cond rfl (fun hc1 => ?_) (fun hc1 => ?_)))
 ·
  try simp only [yS] at hc1
  have hpi := POK_bothJ h0 h1 hlr i yo
  have hpw := hpi.wf
  have hlk : @LE.le Int _ 0 ((l).getD ((i : Nat) : Int).toNat (zero u8)) ∧ @LE.le Int _ ((l).getD ((i : Nat) : Int).toNat (zero u8)) 7 := hlr i
  refine W_skip (W_seq (W_block (w1 ((yM ?_)))))
  refine yR (ov_index (t := (.ar 8 u8)) rfl rfl yf rfl rfl Tryz.underlying82 ya ya (tn ya ya) rfl rfl rfl tok5) ?_
  refine yA_ ?_
  refine yA_ ?_
  refine RO_nil (w2 (fun w0 => ?_))
  refine zM ?_
  refine zM ?_
  refine yL (ov_add rfl rfl rfl ya) ?_
  refine zM ?_
  refine yL (ov_fieldAddr rfl rfl fa31_1 rfl) ?_
  refine yL (ov_indexAddr rfl rfl rfl Tryz.underlying22 rfl Tryz.sizeOf5 ya ya) ?_
  refine LO_l rfl trivial (ol_st0 rfl rfl rfl ⟨⟨trivial, yn⟩, (tn ya ya)⟩ rfl yf tok5 ?_)
  refine yL (ov_fieldAddr rfl rfl fa31_1 rfl) ?_
  refine yL (ov_indexAddr rfl rfl rfl Tryz.underlying22 rfl Tryz.sizeOf5 ya ya) ?_
  refine LO_l rfl trivial (ol_st0 rfl rfl rfl ⟨⟨trivial, yn⟩, (tn ya ya)⟩ rfl yf tok5 ?_)
  refine LO_nil (W_cut [(4, ptrv b2 posT []), (5, ptrv b3 posT []), (0, .int .u8 v), (11, enc (.ar 8 u8) l), (12, .int .i64 (i : Int)), (6, .int .i64 (i : Int)), (7, .int .u8 ((l).getD ((i : Nat) : Int).toNat (zero u8)))] (.box b3 31 posT (both1 (bothJ v l i) l i) :: .box b2 31 posT (zero posT) :: .box b1 82 (.ar 8 u8) l :: M) ?_ ?_)
  ·
   refine W_regD (fun i => !Nat.beq i 9 && !Nat.beq i 12) mixed (fun w0 => ?_)
   refine D_mem0 (i := 0) rfl yk yk rfl rfl yd (ov_move rfl rfl) ?_
   refine D_mem0 (i := 1) rfl yk yk rfl rfl yd (ov_add rfl rfl rfl ya) ?_
   refine D_pure0 (i := 2) rfl yk rfl rfl yd (ov_move rfl rfl) ?_
   refine D_pure0 (i := 3) rfl yk rfl rfl yd (ov_add rfl rfl rfl ya) ?_
   refine D_mem0 (i := 4) rfl yk yk rfl rfl yd (ov_move rfl rfl) ?_
   refine D_mem0 (i := 7) rfl yk yk rfl rfl yd (ov_fieldAddr rfl rfl fa31_1 rfl) ?_
   refine D_pure0 (i := 10) rfl yk rfl rfl yd (ov_fieldAddr rfl rfl fa31_1 rfl) ?_
   refine D_oneV (i := 5) rfl yk rfl rfl yd xaay (yV rfl rfl rfl Tryz.call137 (c_rules_black _ _ hlk.1 hlk.2)) ?_
   refine D_mem0 (i := 8) rfl yk yk rfl rfl yd (ov_indexAddr rfl rfl rfl Tryz.underlying22 rfl Tryz.sizeOf5 ya ya) ?_
   refine D_oneV (i := 6) rfl yk rfl rfl yd xaay (yV rfl rfl rfl Tryz.call137 (c_rules_black 1 _ yd yd)) ?_
   refine D_one (i := 9) rfl yk rfl trivial (ol_st0 rfl rfl rfl ⟨⟨trivial, yn⟩, (tn ya ya)⟩ rfl yf tok5 ⟨xaay, ?_⟩)
   refine D_oneV (i := 11) rfl yk rfl rfl yd xaay (OpX.v (ov_indexAddr rfl rfl rfl Tryz.underlying22 rfl Tryz.sizeOf5 ya ya)) ?_
   refine D_one (i := 12) rfl yk rfl trivial (ol_st0 rfl rfl rfl ⟨⟨trivial, yn⟩, (tn ya ya)⟩ rfl yf tok5 ⟨xaay, ?_⟩)
   refine D_end yk ?_
   exact ⟨⟨rfl, rfl, rfl, rfl, rfl, rfl, rfl, trivial⟩, yb⟩
  ·
   have hq1 := POK_both1 hpi hlr i
   have hrk := rkAt_rng hq1 0 1
   have hq1w := hq1.wf
   refine w1 ((yM ?_))
   refine yP (yV rfl rfl rfl Tryz.call138 (by apply c_rules_Castles <;> exact yz)) ?_
   refine yM ?_
   refine gM ?_
   refine yG (fun hg => OpX.v (ov_eql rfl (look_gv rfl (bq hg)) rfl)) ?_
   refine yR (ov_and rfl rfl rfl rfl (fun h => bq h)) ?_
   refine RO_nil (W_cond rfl (fun hc2 => ?_) (fun hc2 => ?_))
   ·
    refine w1 ((yA_ ?_))
    refine RO_nil (W_cut [(4, ptrv b2 posT []), (5, ptrv b3 posT []), (0, .int .u8 v), (11, enc (.ar 8 u8) l), (12, .int .i64 (i : Int)), (6, .int .i64 (i : Int)), (8, .int .i64 (sideN (both1 (bothJ v l i) l i)))] (.box b3 31 posT (both1 (bothJ v l i) l i) :: .box b2 31 posT (zero posT) :: .box b1 82 (.ar 8 u8) l :: M) ?_ ?_)
    ·
     refine w1 ((yR (ov_fieldAddr rfl rfl fa31_5 rfl) ?_))
     refine yR (ov_indexAddr rfl rfl rfl Tryz.underlying28 rfl Tryz.sizeOf27 ya ya) ?_
     refine yR (ov_indexAddr rfl rfl rfl Tryz.underlying27 rfl Tryz.sizeOf26 ya ya) ?_
     refine yR (ov_load rfl rfl ye ⟨⟨⟨trivial, yn⟩, (tn ya ya)⟩, (tn ya ya)⟩ rfl rfl tok26) ?_
     refine yR (ov_lss rfl rfl rfl) ?_
     refine RO_nil (W_cond rfl (fun hc3 => ?_) (fun hc3 => ?_))
     ·
      try simp only [yS] at hc3
      refine W_reg (yA_ ?_)
      refine RO_nil ?_
      exact ⟨⟨rfl, rfl, rfl, rfl, rfl, rfl, congrArg some (val_int (by first | exact (if_pos yA).symm | exact (if_neg (Int.not_lt.2 yA)).symm)), trivial⟩, yb⟩
     ·
      try simp only [yS] at hc3
      refine W_skip ?_
      exact ⟨⟨rfl, rfl, rfl, rfl, rfl, rfl, congrArg some (val_int (by first | exact (if_pos yA).symm | exact (if_neg (Int.not_lt.2 yA)).symm)), trivial⟩, yb⟩
    ·
     have hsd := sideN_rng (both1 (bothJ v l i) l i)
     refine W_regl (fun w0 => ?_)
     refine zM ?_
     refine zM ?_
     refine zM ?_
     refine yL (ov_convn rfl rfl Tryz.underlying3 Tryz.underlying26 ya) ?_
     refine zM ?_
     refine yL (ov_convn rfl rfl Tryz.underlying3 Tryz.underlying26 ya) ?_
     refine yL (ov_fieldAddr rfl rfl fa31_5 rfl) ?_
     refine yL (ov_indexAddr rfl rfl rfl Tryz.underlying28 rfl Tryz.sizeOf27 ya ya) ?_
     refine yL (ov_indexAddr rfl rfl rfl Tryz.underlying27 rfl Tryz.sizeOf26 ya ya) ?_
     refine LO_l rfl trivial (ol_st0 rfl rfl rfl ⟨⟨⟨trivial, yn⟩, (tn ya ya)⟩, (tn ya ya)⟩ rfl yf tok26 ?_)
     refine yL (ov_fieldAddr rfl rfl fa31_5 rfl) ?_
     refine yL (ov_indexAddr rfl rfl rfl Tryz.underlying28 rfl Tryz.sizeOf27 ya ya) ?_
     refine yL (ov_indexAddr rfl rfl rfl Tryz.underlying27 rfl Tryz.sizeOf26 ya ya) ?_
     refine LO_l rfl trivial (ol_st0 rfl rfl rfl ⟨⟨⟨trivial, yn⟩, (tn ya ya)⟩, (tn ya ya)⟩ rfl yf tok26 ?_)
     refine LO_nil (W_reg (yR (ov_add rfl rfl rfl ya) ?_))
     refine yM ?_
     refine RO_nil ?_
     exact ⟨i + 1, yo, yo, ⟨rfl, rfl, rfl, rfl, rfl, trivial⟩, (by first | (rw [bothJ_yes hc2]; exact yb) | (rw [bothJ_no hc2]; exact yb))⟩
   ·
    refine W_skip (W_reg (yR (ov_add rfl rfl rfl ya) ?_))
    refine yM ?_
    refine RO_nil ?_
    exact ⟨i + 1, yo, yo, ⟨rfl, rfl, rfl, rfl, rfl, trivial⟩, (by first | (rw [bothJ_yes hc2]; exact yb) | (rw [bothJ_no hc2]; exact yb))⟩
 ·
  try simp only [yS] at hc1
  refine W_exit (W_seq ?_)
  have hpf := (POK_bothJ h0 h1 hlr i hI).wf
  refine W_regl (fun w0 => ?_)
  refine yL (ov_load rfl rfl ye trivial rfl rfl tok31) ?_
  refine LO_l rfl trivial (ol_sw1 rfl rfl rfl rfl yf tok31 ?_)
  refine LO_nil (W_ret ⟨trivial, yb, (ResV_cell rfl rfl ye rfl tok31 ?_)⟩)
  exact val_enc (by rw [show i = 8 by omega])

theorem c_rules_Start (M : List Fact) : Pure Tryz.prog 25 [.int .u8 0] M (.tuple #[enc posT startP, .bool true]) := by
 have hsw := startP_ok.wf
 refine pure_of_W (n := 19) Tryz.func25 rfl rfl yn ?_
 refine w2 (fun w0 => ?_)
 refine LO_l rfl (by decide : 2 < 19) (ol_alloc (t := posT) rfl tok31 yf (fun b1 => ?_))
 refine zA ?_
 refine LO_nil (W_seq (W_block (w1 ((yM ?_)))))
 refine yR (ov_geq rfl rfl rfl) ?_
 refine yA_ ?_
 refine RO_nil (W_condf rfl ?_)
 refine w1 ((yM ?_))
 refine yR (ov_eql rfl rfl rfl) ?_
 refine yA_ ?_
 refine RO_nil (W_condf rfl ?_)
 refine w1 ((yM ?_))
 refine yR (ov_eql rfl rfl rfl) ?_
 refine yA_ ?_
 refine RO_nil (W_condf rfl ?_)
 refine W_skip (w2 (fun w0 => ?_))
 refine zM ?_
 refine yQ (yV rfl rfl rfl Tryz.call66 (by apply c_rules_chess <;> exact yz)) ?_
 refine yQ (yV rfl rfl rfl Tryz.call65 (c_rules_both 0 chessL _ yd yd rfl chess_rng)) ?_
 refine LO_l rfl trivial (ol_sw0 rfl rfl rfl rfl yf tok31 ?_)
 refine zA ?_
 refine LO_nil (W_ret ⟨trivial, yb, (ResV_cell_tmp rfl rfl ye rfl tok31 rfl ?_)⟩)
 rfl
end Go.Kw
set_option linter.unusedVariables false
namespace Go.Kw
open Go.Proofs
theorem rdt_st {P : Program} {tid : TypeId} {d : Nat} {fl : Array Field} {fs : List Ty} (hu : P.underlying tid = some (.struct fl)) (hc : P.cellsOf tid = sizes fs) (h : RdF P d fl.toList fs 0) : RdT P (d + 1) tid (.st fs) := by
  have hf : P.fieldsOf tid = fl := by simp [Program.fieldsOf, hu]
  exact ⟨by rw [hf]; exact hu, hc, by rw [hf]; exact h⟩
set_option maxRecDepth 20000
theorem rd5 (d : Nat) : RdT Tryz.prog (d + 1) 5 u8 := Tryz.underlying5
theorem rd3 (d : Nat) : RdT Tryz.prog (d + 1) 3 i64 := Tryz.underlying3
theorem rd23 (d : Nat) : RdT Tryz.prog (d + 1) 23 u64 := Tryz.underlying23
theorem rd26 (d : Nat) : RdT Tryz.prog (d + 1) 26 i8 := Tryz.underlying26
theorem ce5 : Tryz.prog.cellsOf 5 = 1 := by kernel_rfl
theorem ce3 : Tryz.prog.cellsOf 3 = 1 := by kernel_rfl
theorem ce23 : Tryz.prog.cellsOf 23 = 1 := by kernel_rfl
theorem ce26 : Tryz.prog.cellsOf 26 = 1 := by kernel_rfl
theorem ce22 : Tryz.prog.cellsOf 22 = 64 := by kernel_rfl
theorem ce24 : Tryz.prog.cellsOf 24 = 6 := by kernel_rfl
theorem ce25 : Tryz.prog.cellsOf 25 = 12 := by kernel_rfl
theorem ce27 : Tryz.prog.cellsOf 27 = 2 := by kernel_rfl
theorem ce28 : Tryz.prog.cellsOf 28 = 4 := by kernel_rfl
theorem ce29 : Tryz.prog.cellsOf 29 = 2 := by kernel_rfl
theorem ce31 : Tryz.prog.cellsOf 31 = 88 := by kernel_rfl
theorem rd22 (d : Nat) : RdT Tryz.prog (d + 2) 22 (.ar 64 u8) := ⟨5, Tryz.underlying22, ce22, ce5, rd5 d⟩
theorem rd24 (d : Nat) : RdT Tryz.prog (d + 2) 24 (.ar 6 u8) := ⟨5, Tryz.underlying24, ce24, ce5, rd5 d⟩
theorem rd25 (d : Nat) : RdT Tryz.prog (d + 3) 25 (.ar 2 (.ar 6 u8)) := ⟨24, Tryz.underlying25, ce25, ce24, rd24 d⟩
theorem rd27 (d : Nat) : RdT Tryz.prog (d + 2) 27 (.ar 2 i8) := ⟨26, Tryz.underlying27, ce27, ce26, rd26 d⟩
theorem rd28 (d : Nat) : RdT Tryz.prog (d + 3) 28 (.ar 2 (.ar 2 i8)) := ⟨27, Tryz.underlying28, ce28, ce27, rd27 d⟩
theorem rd29 (d : Nat) : RdT Tryz.prog (d + 2) 29 (.ar 2 u8) := ⟨5, Tryz.underlying29, ce29, ce5, rd5 d⟩
theorem rd31 (d : Nat) : RdT Tryz.prog (d + 4) 31 posT :=
  rdt_st Tryz.underlying31 ce31 ⟨rfl, ce5, rd5 (d + 2), rfl, ce22, rd22 (d + 1), rfl, ce23, rd23 (d + 2), rfl, ce25, rd25 d, rfl, ce5, rd5 (d + 2), rfl, ce28, rd28 d, rfl, ce26, rd26 (d + 2), rfl, ce29, rd29 (d + 1), rfl, ce3, rd3 (d + 2), rfl, ce3, rd3 (d + 2), trivial⟩
theorem u8_of {n : Int} (h : inR u8 n) : 0 ≤ n ∧ n ≤ 255 := by
  have h' : (Lit.int .u8 n).wf = true := h
  simpa [Lit.wf, IntKind.min, IntKind.max, IntKind.signed, IntKind.bits] using h'
theorem i8_of {n : Int} (h : inR i8 n) : -128 ≤ n ∧ n ≤ 127 := by
  have h' : (Lit.int .i8 n).wf = true := h
  simpa [Lit.wf, IntKind.min, IntKind.max, IntKind.signed, IntKind.bits] using h'
theorem i64_of {n : Int} (h : inR i64 n) : -9223372036854775808 ≤ n ∧ n ≤ 9223372036854775807 := by
  have h' : (Lit.int .i64 n).wf = true := h
  simpa [Lit.wf, IntKind.min, IntKind.max, IntKind.signed, IntKind.bits] using h'
theorem row_of {a b : Int} (ha : a ≤ 0) (hb : 0 ≤ b) (l : List Int) (h : ∀ x ∈ l, a ≤ x ∧ x ≤ b) (i : Nat) : a ≤ l.getD i 0 ∧ l.getD i 0 ≤ b := by
  rw [List.getD_eq_getElem?_getD]
  cases e : l[i]? with
  | none => exact ⟨ha, hb⟩
  | some x => exact h x (List.mem_of_getElem? e)
theorem row2_of {a b : Int} (ha : a ≤ 0) (hb : 0 ≤ b) (l : List (List Int)) (h : ∀ r ∈ l, ∀ x ∈ r, a ≤ x ∧ x ≤ b) (c i : Nat) : a ≤ (l.getD c []).getD i 0 ∧ (l.getD c []).getD i 0 ≤ b := by
  refine row_of ha hb _ (fun x hx => ?_) i
  rw [List.getD_eq_getElem?_getD] at hx
  cases e : l[c]? with
  | none => rw [e] at hx; cases hx
  | some r => rw [e] at hx; exact h r (List.mem_of_getElem? e) x hx
theorem POK_of {p : Pos} (hw : wf posT p) (h : inR posT p) : POK p := by
  obtain ⟨h1, h2, h3, h4, h5, h6, h7, h8, h9, h10, _⟩ := h
  exact ⟨hw, fun i => row_of yd yd _ (fun x hx => u8_of (h2 x hx)) i, u8_of h1, u8_of h5, i8_of h7, i64_of h9, i64_of h10,
    fun c k => row2_of yd yd _ (fun r hr x hx => u8_of (h4 r hr x hx)) c k, fun c k => row2_of yd yd _ (fun r hr x hx => i8_of (h6 r hr x hx)) c k,
    fun c => row_of yd yd _ (fun x hx => u8_of (h8 x hx)) c⟩
theorem kept_of_step {M M' : List Fact} {w w' : World} (h : Step M w M' w') (hm : muts M = []) (may : MemPlace → Prop) : w.keptBut w' may := by
  refine ⟨h.os, h.output, fun i hi => ?_⟩
  have e := h.same i hi (by rw [hm]; simp)
  rw [e]
  cases hx : w.heap[i]? with
  | none => trivial
  | some o => cases o <;> simp
section
variable {H : Type} {enc : TypeId × Value → H} {P : Program}
end
theorem own : ownKnob Tryz.prog.godebug = none := by kernel_rfl
theorem gTab : Tryz.prog.globalNamed "math/bits.deBruijn64tab" = some 0 := by kernel_rfl
theorem gTabType : (Tryz.prog.globals[0]?).map (·.type) = some 22 := by kernel_rfl
def tabCells : Array Value := (cells (.ar 64 u8) DB).toArray
theorem table {W : World} (h : laidMetH Tryz.prog [("math/bits.deBruijn64tab", Proofs.YtpakilamdannfaaGreatDoor.Rows.laid_math_bits_deBruijn64tab)] W) : Lib.TabIs Tryz.prog W "math/bits.deBruijn64tab" .u8 DB :=
  Lib.tabIs_of_head (rest := []) gTab gTabType Tryz.underlying22 Tryz.underlying5 ce5 ce22 h
theorem begin0 : ((begin Tryz.prog (fun _ _ => 0) default).world.heap[0]?).bind Obj.row? = some (Array.replicate 64 (.int .u8 0), 22) := by kernel_rfl
theorem glob0 : 0 < Tryz.prog.globals.size := of_decide_eq_true yk
theorem mem_tab {W : World} (h : laidMetH Tryz.prog [("math/bits.deBruijn64tab", Proofs.YtpakilamdannfaaGreatDoor.Rows.laid_math_bits_deBruijn64tab)] W) (hs : W.ShapedOpen Tryz.prog) : Mem [TAB] W := by
  obtain ⟨cs, h1, -, -⟩ := hs.1 0 _ 22 glob0 begin0
  have h2 := table h
  unfold Lib.TabIs World.var? at h2
  rw [gTab] at h2
  simp only [Option.bind_some, h1] at h2
  have e : cs = tabCells := by
    have := Option.some.inj h2
    rw [this]; rfl
  subst e
  refine ⟨fun f hf => ?_, by simp [muts, Fact.mut], fun b hb => by simp [muts, Fact.mut]⟩
  rw [List.mem_singleton.1 hf]
  exact ⟨⟨_, h1⟩, rfl, fun _ _ => trivial⟩
section
variable {H : Type} {enc : TypeId × Value → H} {P : Program}
theorem heap_same {M M' : List Fact} {w w' : World} (h : Step M w M' w') (hm : muts M = []) {b : Nat} (hb : b < w.heap.size) : w'.heap[b]? = w.heap[b]? := h.same b hb (by rw [hm]; simp)
theorem frozen_same {w w' : World} {a : Addr} (h : w'.heap[a.block]? = w.heap[a.block]?) : w'.frozen? a = w.frozen? a := by
  unfold World.frozen?; rw [h]
theorem post_of_kept {f : Func} {s : ChangeSpec} {apart fresh handsOn again : Bool} {W W' : World} {args : Array Value} {v : Value} {ds gs : List (DataW H)} {before : List MemPlace}
    (hW : DataW.Whole enc P f.params.toList s.vars apart W args.toList ds gs before)
    (hres : ∀ (b : Nat) (sp : Nat → Bool) (hd : Bool), DataW.TrodAll enc P W' b sp hd f.resultTypes.toList (v.resultList f.resultTypes.size) (s.fn H (ds ++ gs)).results [])
    (hargs : ∀ sp : Nat → Bool, (∀ p ∈ before, sp p.block = true) → DataW.TrodAll enc P W' 0 sp true f.params.toList args.toList (s.fn H (ds ++ gs)).args before)
    (hvars : ∀ sp : Nat → Bool, DataW.TrodVars enc P W' sp s.vars (s.fn H (ds ++ gs)).vars [])
    (hk : ∀ may, W.keptBut W' may) (hfz : ∀ b off, b < W.heap.size → W'.frozen? ⟨b, off, none⟩ = W.frozen? ⟨b, off, none⟩)
    (hok : ∀ (j : Nat) (t : TypeId) (r : Value), f.resultTypes[j]? = some t → (v.resultList f.resultTypes.size)[j]? = some r → Value.okWide P W' .any 0 t r) :
    s.post enc P f apart fresh handsOn again W args v W' := by
  have hold : ∀ p ∈ before, (fun b => decide (b < W.heap.size)) p.block = true := fun p hp => by simpa using hW.lt p hp
  refine ⟨ds, gs, before, [], before, [], hW, hres _ _ _, hargs _ hold, hvars _, hk _, fun _ => ?_⟩
  have hlt := fun p hp => hW.lt p hp
  obtain ⟨_, _, _, _, _, hz, hn⟩ := hW
  refine ⟨hok, _, _, ([] ++ before) ++ [], ⟨[] ++ before, [], Go.ChangeShapes.trodAll_append (hargs _ (fun _ _ => rfl)) (hres _ _ _), hvars _, rfl, ?_, ?_⟩, ?_⟩
  · intro b off hp
    have hp' : MemPlace.cell b off ∈ before := by simpa using hp
    rw [hfz b off (hlt _ hp')]
    exact hz b off hp'
  · intro ha
    have := hn ha
    simpa using this
  · intro p hp _
    simpa using hp
theorem flat1 : ∀ l : List Int, flatl u8 l = l.map (Value.int .u8)
  | [] => rfl
  | x :: l => by
    have := flat1 l
    show Value.int .u8 x :: flatl u8 l = _
    rw [this]; rfl
/-- A slice of bytes: what it is, as the walk wants it; and that it reads so behind the call. -/
theorem open_bytes {W : World} {tid e : TypeId} {base b0 : Nat} {v : Value} {d : DataW H} {ps : List MemPlace} {held : Bool} (ht : P.underlying tid = some (.slice e)) (he : P.underlying e = some (.int .u8)) (hc : P.cellsOf e = 1)
    (hval : Value.okWide P W .any b0 tid v) (hd : DataW.Trod enc P W base (fun _ => true) held tid v d ps) :
    ∃ xs : List (El u8), isList W.heap v u8 xs ∧ (∀ i, 0 ≤ (show List Int from xs).getD i 0 ∧ (show List Int from xs).getD i 0 ≤ 255) ∧
      ∀ (W' : World) (sp : Nat → Bool) (held' : Bool), (∀ b, b < W.heap.size → W'.heap[b]? = W.heap[b]?) → (∀ p ∈ ps, sp p.block = true) → DataW.Trod enc P W' 0 sp held' tid v d ps := by
  obtain ⟨n, hn⟩ := hd
  obtain ⟨a0, len0, cap0, rfl⟩ := WideShapes.okWide_slice ht hval
  rcases Go.ChangeShapes.open_ints ht he hc hn with ⟨h1, h2⟩ | ⟨a, len, cap, zs, h1, h2, h3, h4, h5, h6, h7, h8⟩
  · simp only [Value.cells] at h1
    have e1 : Value.slice a0 len0 cap0 = .slice none 0 0 := by simpa using h1
    cases e1
    simp only [Prod.mk.injEq] at h2
    obtain ⟨rfl, rfl⟩ := h2
    refine ⟨[], ⟨by simp, .inl ⟨rfl, rfl⟩⟩, fun i => ⟨by show 0 ≤ ([] : List Int).getD i 0; simp, by show ([] : List Int).getD i 0 ≤ 255; simp⟩, fun W' sp held' _ _ => ⟨1, ?_⟩⟩
    simp [DataW.trod, Value.cells, ht]
  · simp only [Value.cells] at h1
    have e1 : Value.slice a0 len0 cap0 = .slice (some a) len cap := by simpa using h1
    cases e1
    simp only [Prod.mk.injEq] at h6
    obtain ⟨rfl, rfl⟩ := h6
    simp only [if_true] at h5
    have hsh : W.has P .any b0 a e cap0 := by
      simp only [Value.okWide, ht, Cell.okWide, Cell.ok] at hval
      exact hval.2.2
    obtain ⟨_, hspot, row, cells, hshape, _⟩ := hsh
    obtain ⟨b, off, spot⟩ := a
    simp only at hspot hshape
    subst hspot
    have hobj : ∃ cs t fr, W.heap[b]? = some (.cells cs t fr) := by
      unfold World.shape? at hshape
      cases hb : W.heap[b]? with
      | none => simp [hb] at hshape
      | some o => cases o <;> simp_all
    obtain ⟨cs, t, fr, hb⟩ := hobj
    have hlt : b < W.heap.size := (Array.getElem?_eq_some_iff.1 hb).1
    have hcell : ∀ i, i < zs.length → cs[off + i]? = some (.int .u8 (zs.getD i 0)) := fun i hi => by
      have := h7 i hi
      rw [WideShapes.add_plain] at this
      simpa [World.cell?, hb] using this
    have hlen : (zs.take len0).length = len0 := by rw [List.length_take]; omega
    refine ⟨zs.take len0, ⟨fun _ _ => trivial, .inr ⟨b, off, cap0, cs, t, fr, ?_, hb, ?_⟩⟩, ?_, ?_⟩
    · show Value.slice (some ⟨b, off, none⟩) len0 cap0 = .slice (some ⟨b, off, none⟩) (zs.take len0).length cap0
      rw [hlen]
    · rw [flat1, hlen]
      apply List.ext_getElem?
      intro i
      rw [List.getElem?_take, List.getElem?_drop, List.getElem?_map, List.getElem?_take]
      have e8 : u8.size = 1 := rfl
      rw [e8, Nat.mul_one]
      by_cases hi : i < len0
      · rw [if_pos hi, if_pos hi]
        have := hcell i yo
        rw [Array.getElem?_toList, this, List.getElem?_eq_getElem (show i < zs.length by omega), List.getD_eq_getElem?_getD, List.getElem?_eq_getElem (show i < zs.length by omega)]; rfl
      · rw [if_neg hi, if_neg hi]; rfl
    · intro i
      refine row_of yd yd (zs.take len0) (fun x hx => ?_) i
      have := h8 x (List.mem_of_mem_take hx)
      simpa [Lit.wf, IntKind.min, IntKind.max, IntKind.signed, IntKind.bits] using this
    · intro W' sp held' hh hsp
      refine ⟨2, ?_⟩
      refine Go.ChangeShapes.shut_ints 0 ht he hc (Nat.zero_le _) h3 h4 ?_ (fun i hi => ?_) h8
      · by_cases hz : zs.length = 0
        · have : cap0 = 0 := by omega
          have : len0 = 0 := by omega
          split <;> omega
        · have hp := hsp (.cell b off) (by unfold MemPlace.row; exact List.mem_map.2 ⟨0, List.mem_range.2 yo, rfl⟩)
          exact h5.trans (if_pos hp).symm
      · have := h7 i hi
        rw [WideShapes.add_plain] at this ⊢
        simp only [World.cell?] at this ⊢
        rw [hh b hlt]; exact this
end
end Go.Kw
set_option linter.unusedVariables false
namespace Go.Kw
/-! ### rays and what stands between -/
def deltaD (d : Int) : Int := if d = 0 then 8 else if d = 1 then 9 else if d = 2 then 1 else if d = 3 then -7 else if d = 4 then -8 else if d = 5 then -9 else if d = 6 then -1 else 7
/-- how many steps there are from s in the direction d -/
def roomF (s d : Int) : Nat → Nat
  | 0 => 0
  | n + 1 => if rayX s d (7 - n) = 0#64 then 0 else roomF s d n + 1
def room (s d : Int) : Nat := roomF s d 8
def btwF (step b : Int) : Nat → Int → BitVec 64
  | 0, _ => 0#64
  | f + 1, s => if s = b then 0#64 else oneB s ||| btwF step b f (s + step)
def btw (a b : Int) : BitVec 64 := btwF (stepOf a b) b 8 (a + stepOf a b)
def pathB (s d : Int) (k : Nat) : BitVec 64 := orTo (fun j => oneB (s + ((j : Int) + 1) * deltaD d)) k
theorem ray_path : ∀ s : Fin 64, ∀ d : Fin 8, rayB (s.val : Int) (d.val : Int) = pathB (s.val : Int) (d.val : Int) (room (s.val : Int) (d.val : Int)) ∧ room (s.val : Int) (d.val : Int) ≤ 7 := by decide +kernel
theorem ray_sub : ∀ s : Fin 64, ∀ d : Fin 8, ∀ k : Fin 7, k.val < room (s.val : Int) (d.val : Int) →
    (0 ≤ (s.val : Int) + ((k.val : Int) + 1) * deltaD (d.val : Int) ∧ (s.val : Int) + ((k.val : Int) + 1) * deltaD (d.val : Int) < 64)
    ∧ room ((s.val : Int) + ((k.val : Int) + 1) * deltaD (d.val : Int)) (d.val : Int) + (k.val + 1) = room (s.val : Int) (d.val : Int)
    ∧ btw ((s.val : Int) + ((k.val : Int) + 1) * deltaD (d.val : Int)) (s.val : Int) = pathB (s.val : Int) (d.val : Int) k.val
    ∧ btw (s.val : Int) ((s.val : Int) + ((k.val : Int) + 1) * deltaD (d.val : Int)) = pathB (s.val : Int) (d.val : Int) k.val := by decide +kernel
def rayS (s : Int) : BitVec 64 := ((rayB s 0 ||| rayB s 2) ||| rayB s 4) ||| rayB s 6
def rayA (s : Int) : BitVec 64 := ((rayB s 1 ||| rayB s 3) ||| rayB s 5) ||| rayB s 7
theorem rayS_bit : ∀ s : Fin 64, ∀ a : Fin 64, (rayS (s.val : Int)).getLsbD a.val = straight (s.val : Int) (a.val : Int) ∧ straight (a.val : Int) (s.val : Int) = straight (s.val : Int) (a.val : Int) := by decide +kernel
theorem rayA_bit : ∀ s : Fin 64, ∀ a : Fin 64, (rayA (s.val : Int)).getLsbD a.val = across (s.val : Int) (a.val : Int) ∧ across (a.val : Int) (s.val : Int) = across (s.val : Int) (a.val : Int) := by decide +kernel
theorem kingB_bit : ∀ s : Fin 64, ∀ a : Fin 64, (kingB (s.val : Int)).getLsbD a.val = beside (s.val : Int) (a.val : Int) ∧ beside (a.val : Int) (s.val : Int) = beside (s.val : Int) (a.val : Int) := by decide +kernel
def knightR (a b : Int) : Bool := (decide (iabs (upOf a b) = 1) && decide (asideOf a b = 2)) || (decide (iabs (upOf a b) = 2) && decide (asideOf a b = 1))
theorem knightB_bit : ∀ s : Fin 64, ∀ a : Fin 64, (knightB (s.val : Int)).getLsbD a.val = knightR (s.val : Int) (a.val : Int) ∧ knightR (a.val : Int) (s.val : Int) = knightR (s.val : Int) (a.val : Int) := by decide +kernel
def pawnHit (c a b : Int) : Bool := if c = 0 then decide (upOf a b = 1) && decide (asideOf a b = 1) else decide (upOf a b = -1) && decide (asideOf a b = 1)
theorem pawnB_bit : ∀ c : Fin 2, ∀ s : Fin 64, ∀ a : Fin 64, (pawnB (c.val : Int) (s.val : Int)).getLsbD a.val = pawnHit (c.val : Int) (s.val : Int) (a.val : Int) ∧ pawnHit (1 - (c.val : Int)) (a.val : Int) (s.val : Int) = pawnHit (c.val : Int) (s.val : Int) (a.val : Int) := by decide +kernel
end Go.Kw
set_option linter.unusedVariables false
namespace Go.Kw
theorem oneB_bit {x : Int} (h0 : 0 ≤ x) (h1 : x < 64) {t : Nat} (ht : t < 64) : (oneB x).getLsbD t = decide ((t : Int) = x) := by
  unfold oneB; rw [if_neg yo, BitVec.getLsbD_shiftLeft, BitVec.getLsbD_one]
  by_cases h : (t : Int) = x
  · have e : t = x.toNat := by omega
    subst e; simp [h, ht]
  · rw [decide_eq_false h]
    by_cases h2 : t < x.toNat
    · simp [h2]
    · have : ¬ t - x.toNat = 0 := by omega
      simp [this]
theorem orTo_bit (f : Nat → BitVec 64) (t : Nat) : ∀ n, (orTo f n).getLsbD t = true ↔ ∃ j, j < n ∧ (f j).getLsbD t = true
  | 0 => by simp [orTo]
  | n + 1 => by
    rw [orTo, BitVec.getLsbD_or, Bool.or_eq_true, orTo_bit f t n]
    constructor
    · rintro (⟨j, hj, h⟩ | h)
      · exact ⟨j, by omega, h⟩
      · exact ⟨n, by omega, h⟩
    · rintro ⟨j, hj, h⟩
      by_cases e : j = n
      · subst e; exact .inr h
      · exact .inl ⟨j, by omega, h⟩
theorem and_zero {a b : BitVec 64} : a &&& b = 0#64 ↔ ∀ t, t < 64 → a.getLsbD t = true → b.getLsbD t = true → False := by
  constructor
  · intro h t ht h1 h2
    have : (a &&& b).getLsbD t = true := by rw [BitVec.getLsbD_and, h1, h2]; rfl
    rw [h] at this; simp at this
  · intro h
    apply BitVec.eq_of_getLsbD_eq
    intro t ht
    rw [BitVec.getLsbD_and, BitVec.getLsbD_zero]
    cases h1 : a.getLsbD t with
    | false => rfl
    | true =>
      cases h2 : b.getLsbD t with
      | false => rfl
      | true => exact (h t ht h1 h2).elim
theorem last_high {b : BitVec 64} (h : ¬ b = 0#64) : ∃ i : Nat, i < 64 ∧ b.getLsbD i = true ∧ (∀ j, i < j → b.getLsbD j = false) ∧ lastB b = (i : Int) := by
  have hn : b.toNat ≠ 0 := fun e => h (BitVec.eq_of_toNat_eq (by simpa using e))
  obtain ⟨g1, g2, g3⟩ := blen_spec hn
  have hr := last_rng h
  have hl : lastB b = ((blen b.toNat - 1 : Nat) : Int) := by unfold lastB lenB; omega
  refine ⟨blen b.toNat - 1, by omega, ?_, fun j hj => ?_, hl⟩
  · rw [← BitVec.testBit_toNat, Nat.testBit_eq_decide_div_mod_eq]
    have e : b.toNat / 2 ^ (blen b.toNat - 1) = 1 := by
      have hp : 0 < 2 ^ (blen b.toNat - 1) := Nat.two_pow_pos _
      have e1 : 2 ^ blen b.toNat = 2 * 2 ^ (blen b.toNat - 1) := by
        rw [← Nat.pow_succ']; congr 1; omega
      have l1 : 1 ≤ b.toNat / 2 ^ (blen b.toNat - 1) := (Nat.le_div_iff_mul_le hp).2 yo
      have l2 : b.toNat / 2 ^ (blen b.toNat - 1) < 2 := (Nat.div_lt_iff_lt_mul hp).2 yo
      omega
    rw [e]; rfl
  · rw [← BitVec.testBit_toNat]
    exact Nat.testBit_lt_two_pow (Nat.lt_of_lt_of_le g2 (Nat.pow_le_pow_right yd yo))
section
variable {s d : Int} (h0 : 0 ≤ s) (h1 : s < 64) (d0 : 0 ≤ d) (d1 : d < 8)
include h0 h1 d0 d1
theorem ray_path' : rayB s d = pathB s d (room s d) ∧ room s d ≤ 7 := by
  have := ray_path ⟨s.toNat, by omega⟩ ⟨d.toNat, by omega⟩
  simpa only [Int.toNat_of_nonneg h0, Int.toNat_of_nonneg d0] using this
theorem ray_sub' {k : Nat} (hk : k < room s d) : (0 ≤ s + ((k : Int) + 1) * deltaD d ∧ s + ((k : Int) + 1) * deltaD d < 64) ∧ room (s + ((k : Int) + 1) * deltaD d) d + (k + 1) = room s d
    ∧ btw (s + ((k : Int) + 1) * deltaD d) s = pathB s d k ∧ btw s (s + ((k : Int) + 1) * deltaD d) = pathB s d k := by
  have hr := (ray_path' h0 h1 d0 d1).2
  have := ray_sub ⟨s.toNat, by omega⟩ ⟨d.toNat, by omega⟩ ⟨k, by omega⟩
  simp only [Int.toNat_of_nonneg h0, Int.toNat_of_nonneg d0] at this
  exact this hk
theorem path_bit {k t : Nat} (hk : k ≤ room s d) (ht : t < 64) : (pathB s d k).getLsbD t = true ↔ ∃ j, j < k ∧ (t : Int) = s + ((j : Int) + 1) * deltaD d := by
  unfold pathB
  rw [orTo_bit]
  constructor
  · rintro ⟨j, hj, h⟩
    obtain ⟨⟨a, b⟩, -⟩ := ray_sub' h0 h1 d0 d1 (k := j) yo
    rw [oneB_bit a b ht] at h
    exact ⟨j, hj, of_decide_eq_true h⟩
  · rintro ⟨j, hj, h⟩
    obtain ⟨⟨a, b⟩, -⟩ := ray_sub' h0 h1 d0 d1 (k := j) yo
    exact ⟨j, hj, by rw [oneB_bit a b ht]; exact decide_eq_true h⟩
theorem path_clear {k : Nat} (hk : k ≤ room s d) (occ : BitVec 64) : pathB s d k &&& occ = 0#64 ↔ ∀ j, j < k → occ.getLsbD (s + ((j : Int) + 1) * deltaD d).toNat = false := by
  rw [and_zero]
  constructor
  · intro h j hj
    obtain ⟨⟨a, b⟩, -⟩ := ray_sub' h0 h1 d0 d1 (k := j) yo
    cases e : occ.getLsbD (s + ((j : Int) + 1) * deltaD d).toNat with
    | false => rfl
    | true => exact (h _ yo ((path_bit h0 h1 d0 d1 hk yo).2 ⟨j, hj, Int.toNat_of_nonneg a⟩) e).elim
  · intro h t ht hp ho
    obtain ⟨j, hj, e⟩ := (path_bit h0 h1 d0 d1 hk ht).1 hp
    have := h j hj
    rw [show (s + ((j : Int) + 1) * deltaD d).toNat = t by omega, ho] at this; cases this
theorem delta_cases : (deltaD d = 8 ∨ deltaD d = 9 ∨ deltaD d = 1 ∨ deltaD d = 7) ∧ ¬ (3 ≤ d ∧ d ≤ 6) ∨ (deltaD d = -7 ∨ deltaD d = -8 ∨ deltaD d = -9 ∨ deltaD d = -1) ∧ (3 ≤ d ∧ d ≤ 6) := by
  have : d = 0 ∨ d = 1 ∨ d = 2 ∨ d = 3 ∨ d = 4 ∨ d = 5 ∨ d = 6 ∨ d = 7 := by omega
  rcases this with rfl | rfl | rfl | rfl | rfl | rfl | rfl | rfl <;> decide
theorem near_spec {B : BitVec 64} (h : ¬ B = 0#64) (hB : ∀ t, t < 64 → B.getLsbD t = true → (rayB s d).getLsbD t = true) :
    ∃ j, j < room s d ∧ nearB d B = s + ((j : Int) + 1) * deltaD d ∧ B.getLsbD (s + ((j : Int) + 1) * deltaD d).toNat = true ∧ ∀ i, i < j → B.getLsbD (s + ((i : Int) + 1) * deltaD d).toNat = false := by
  have hrp := (ray_path' h0 h1 d0 d1).1
  have find_j : ∀ n : Nat, n < 64 → B.getLsbD n = true → ∃ j, j < room s d ∧ (n : Int) = s + ((j : Int) + 1) * deltaD d := fun n hn hb => by
    have := hB n hn hb
    rw [hrp] at this
    exact (path_bit h0 h1 d0 d1 (Nat.le_refl _) hn).1 this
  rcases delta_cases h0 h1 d0 d1 with ⟨hd, hr⟩ | ⟨hd, hr⟩
  · obtain ⟨n, hn, hb, hl⟩ := low_bit h
    obtain ⟨j, hj, e⟩ := find_j n hn hb
    refine ⟨j, hj, ?_, ?_, fun i hi => ?_⟩
    · unfold nearB; rw [if_neg hr, first_low hn hb hl]; exact e
    · rw [← e]; simpa using hb
    · apply hl
      have := (ray_sub' h0 h1 d0 d1 (k := i) yo).1
      rcases hd with hd | hd | hd | hd <;> rw [hd] at e this ⊢ <;> omega
  · obtain ⟨n, hn, hb, hl, hv⟩ := last_high h
    obtain ⟨j, hj, e⟩ := find_j n hn hb
    refine ⟨j, hj, ?_, ?_, fun i hi => ?_⟩
    · unfold nearB; rw [if_pos hr, hv]; exact e
    · rw [← e]; simpa using hb
    · apply hl
      have := (ray_sub' h0 h1 d0 d1 (k := i) yo).1
      rcases hd with hd | hd | hd | hd <;> rw [hd] at e this ⊢ <;> omega
theorem dir_bit (occ : BitVec 64) {a : Nat} (ha : a < 64) : (dirB s d occ).getLsbD a = ((rayB s d).getLsbD a && decide (btw (a : Int) s &&& occ = 0#64)) := by
  have hrp := (ray_path' h0 h1 d0 d1).1
  cases hr : (rayB s d).getLsbD a with
  | false =>
    rw [Bool.false_and]
    unfold dirB; split
    · exact hr
    · rw [BitVec.getLsbD_and, hr]; rfl
  | true =>
    rw [Bool.true_and]
    have hr' := hr
    rw [hrp] at hr'
    obtain ⟨k, hk, ek⟩ := (path_bit h0 h1 d0 d1 (Nat.le_refl _) ha).1 hr'
    obtain ⟨-, -, hb, -⟩ := ray_sub' h0 h1 d0 d1 hk
    rw [← ek] at hb
    rw [hb]
    have hc := path_clear h0 h1 d0 d1 (k := k) yo occ
    unfold dirB
    by_cases hz : rayB s d &&& occ = 0#64
    · rw [if_pos hz, hr]
      symm
      refine decide_eq_true (hc.2 fun j hj => ?_)
      have hin := (ray_sub' h0 h1 d0 d1 (k := j) yo).1
      cases e : occ.getLsbD (s + ((j : Int) + 1) * deltaD d).toNat with
      | false => rfl
      | true =>
        refine (and_zero.1 hz (s + ((j : Int) + 1) * deltaD d).toNat yo ?_ e).elim
        rw [hrp]
        exact (path_bit h0 h1 d0 d1 (Nat.le_refl _) yo).2 ⟨j, by omega, by omega⟩
    · rw [if_neg hz]
      obtain ⟨j, hj, en, hbn, hmin⟩ := near_spec h0 h1 d0 d1 hz fun t _ h => by
        rw [BitVec.getLsbD_and] at h; exact (Bool.and_eq_true_iff.1 h).1
      obtain ⟨⟨n0, n1⟩, hroom, -, -⟩ := ray_sub' h0 h1 d0 d1 hj
      have ray_n := ray_path' n0 n1 d0 d1
      rw [en, BitVec.getLsbD_and, hr, BitVec.getLsbD_not, Bool.true_and]
      simp only [ha, decide_true, Bool.true_and]
      have hin : ∀ i, i < room s d → (rayB s d).getLsbD (s + ((i : Int) + 1) * deltaD d).toNat = true := fun i hi => by
        have := (ray_sub' h0 h1 d0 d1 (k := i) hi).1
        rw [hrp]
        exact (path_bit h0 h1 d0 d1 (Nat.le_refl _) yo).2 ⟨i, hi, by omega⟩
      have hbeh : (rayB (s + ((j : Int) + 1) * deltaD d) d).getLsbD a = true ↔ j < k := by
        rw [ray_n.1, path_bit n0 n1 d0 d1 (Nat.le_refl _) ha]
        constructor
        · rintro ⟨i, hi, e⟩
          rw [ek] at e
          rcases delta_cases h0 h1 d0 d1 with ⟨hd, _⟩ | ⟨hd, _⟩ <;> rcases hd with hd | hd | hd | hd <;> rw [hd] at e <;> omega
        · intro hjk
          refine ⟨k - j - 1, by omega, ?_⟩
          rw [ek]
          rcases delta_cases h0 h1 d0 d1 with ⟨hd, _⟩ | ⟨hd, _⟩ <;> rcases hd with hd | hd | hd | hd <;> rw [hd] <;> omega
      by_cases hjk : j < k
      · rw [hbeh.2 hjk]
        symm
        refine decide_eq_false fun h => ?_
        have := hc.1 h j hjk
        rw [BitVec.getLsbD_and, Bool.and_eq_true] at hbn
        rw [hbn.2] at this; cases this
      · have hf : (rayB (s + ((j : Int) + 1) * deltaD d) d).getLsbD a = false := by
          cases e : (rayB (s + ((j : Int) + 1) * deltaD d) d).getLsbD a with
          | false => rfl
          | true => exact absurd (hbeh.1 e) hjk
        rw [hf]
        symm
        refine decide_eq_true (hc.2 fun i hi => ?_)
        have := hmin i yo
        rw [BitVec.getLsbD_and, hin i yo, Bool.true_and] at this
        exact this
end
end Go.Kw
set_option linter.unusedVariables false
namespace Go.Kw
theorem allB_bit (p : Pos) {t : Nat} (ht : t < 64) : (allB p).getLsbD t = !decide (kind (pb p (t : Int)) = 0) := by
  unfold allB; rw [setOf_bit _ 64 t (Nat.le_refl _), decide_eq_true ht, Bool.true_and]
  unfold occF; rw [Bool.and_true]
theorem ofB_bit (p : Pos) (c k : Int) {t : Nat} (ht : t < 64) : (ofB p c k).getLsbD t = (!decide (kind (pb p (t : Int)) = 0) && ofH c k (pb p (t : Int))) := by
  unfold ofB; rw [setOf_bit _ 64 t (Nat.le_refl _), decide_eq_true ht, Bool.true_and]; rfl
theorem ofB_kind (p : Pos) (c : Int) {k : Int} (hk : ¬ k = 0) {t : Nat} (ht : t < 64) : (ofB p c k).getLsbD t = isAt p (t : Int) c k := by
  rw [ofB_bit p c k ht]
  unfold isAt ofH colorP
  by_cases h0 : kind (pb p (t : Int)) = 0
  · have : ¬ kind (pb p (t : Int)) = k := fun e => hk yo
    rw [decide_eq_true h0, decide_eq_false this]; rfl
  · rw [decide_eq_false h0, if_neg h0, decide_eq_false hk]
    simp [Bool.and_comm]
theorem ofB_own (p : Pos) (c : Int) {t : Nat} (ht : t < 64) : (ofB p c 0).getLsbD t = (!decide (kind (pb p (t : Int)) = 0) && decide (pb p (t : Int) / 8 = c)) := by
  rw [ofB_bit p c 0 ht]
  unfold ofH colorP
  by_cases h0 : kind (pb p (t : Int)) = 0
  · rw [decide_eq_true h0]; rfl
  · rw [decide_eq_false h0, if_neg h0]; simp
/-! ### find -/
theorem findFrom_min (p : Pos) (c k : Int) {i : Nat} (hi : i < 64) (ht : isAt p (i : Int) c k = true) : ∀ n s : Nat, s + n = i → (∀ j : Nat, s ≤ j → j < i → isAt p (j : Int) c k = false) → findFrom p c k s = (i : Int)
  | 0, s, e, _ => by
    have : s = i := by omega
    subst this; exact findFrom_hit p c k s hi ht
  | n + 1, s, e, h => by
    rw [findFrom_next p c k s yo (h s yo yo)]
    exact findFrom_min p c k hi ht n (s + 1) yo fun j h1 h2 => h j yo h2
theorem findFrom_none (p : Pos) (c k : Int) : ∀ n s : Nat, s + n = 64 → (∀ j : Nat, s ≤ j → j < 64 → isAt p (j : Int) c k = false) → findFrom p c k s = -1
  | 0, s, e, _ => findFrom_end p c k s yo
  | n + 1, s, e, h => by
    rw [findFrom_next p c k s yo (h s yo yo)]
    exact findFrom_none p c k n (s + 1) yo fun j h1 h2 => h j yo h2
theorem find_first (p : Pos) (c : Int) {k : Int} (hk : ¬ k = 0) : firstB (ofB p c k) = find p c k := by
  unfold find
  by_cases h : ofB p c k = 0#64
  · have hn : ∀ j : Nat, j < 64 → isAt p (j : Int) c k = false := fun j hj => by
      rw [← ofB_kind p c hk hj, h]; simp
    rw [findFrom_none p c k 64 0 rfl fun j _ hj => hn j hj, h]; rfl
  · obtain ⟨i, hi, hb, hl⟩ := low_bit h
    rw [first_low hi hb hl]
    rw [ofB_kind p c hk hi] at hb
    exact (findFrom_min p c k hi hb i 0 yo fun j _ hj => by rw [← ofB_kind p c hk yo]; exact hl j hj).symm
/-! ### hits -/
theorem clearF_btw (p : Pos) (step b : Int) : ∀ (f j : Nat) (s : Int), onLine step b j s → clearF p step b f s = decide (btwF step b f s &&& allB p = 0#64)
  | 0, j, s, _ => by unfold clearF btwF; simp
  | f + 1, j, s, hl => by
    unfold clearF btwF
    by_cases hs : s = b
    · rw [if_pos hs, if_pos hs]; simp
    · rw [if_neg hs, if_neg hs]
      cases j with
      | zero => exact absurd hl hs
      | succ j =>
        obtain ⟨s0, s1, -, hl'⟩ := hl
        have ih := clearF_btw p step b f j (s + step) hl'
        have hb := allB_bit p (t := s.toNat) yo
        rw [Int.toNat_of_nonneg s0] at hb
        by_cases hk : kind (pb p s) = 0
        · rw [if_pos hk, ih]
          rw [decide_eq_true hk] at hb
          congr 1
          rw [and_zero, and_zero]
          apply propext
          constructor
          · intro h t ht h1 h2
            rw [BitVec.getLsbD_or, Bool.or_eq_true] at h1
            rcases h1 with h1 | h1
            · rw [oneB_bit s0 s1 ht] at h1
              have := of_decide_eq_true h1
              rw [show t = s.toNat by omega, hb] at h2; cases h2
            · exact h t ht h1 h2
          · intro h t ht h1 h2
            exact h t ht (by rw [BitVec.getLsbD_or, h1, Bool.or_true]) h2
        · rw [if_neg hk]
          rw [decide_eq_false hk] at hb
          symm
          refine decide_eq_false fun h => ?_
          refine and_zero.1 h s.toNat yo ?_ hb
          rw [BitVec.getLsbD_or, oneB_bit s0 s1 yo, decide_eq_true (Int.toNat_of_nonneg s0)]; rfl
section
variable {s : Int} (h0 : 0 ≤ s) (h1 : s < 64) {a : Nat} (ha : a < 64)
include h0 h1 ha
theorem clear_btw (p : Pos) (h : (straight (a : Int) s || across (a : Int) s) = true) : clear p (a : Int) s = decide (btw (a : Int) s &&& allB p = 0#64) :=
  clearF_btw p _ _ 8 _ _ (line_of yo yo h0 h1 h).1
theorem clear_btw' (p : Pos) (h : (straight s (a : Int) || across s (a : Int)) = true) : clear p s (a : Int) = decide (btw s (a : Int) &&& allB p = 0#64) :=
  clearF_btw p _ _ 8 _ _ (line_of h0 h1 yo yo h).1
theorem rayS_b : (rayS s).getLsbD a = straight s (a : Int) ∧ straight (a : Int) s = straight s (a : Int) := by
  have := rayS_bit ⟨s.toNat, by omega⟩ ⟨a, ha⟩
  simpa only [Int.toNat_of_nonneg h0] using this
theorem rayA_b : (rayA s).getLsbD a = across s (a : Int) ∧ across (a : Int) s = across s (a : Int) := by
  have := rayA_bit ⟨s.toNat, by omega⟩ ⟨a, ha⟩
  simpa only [Int.toNat_of_nonneg h0] using this
theorem kingB_b : (kingB s).getLsbD a = beside s (a : Int) ∧ beside (a : Int) s = beside s (a : Int) := by
  have := kingB_bit ⟨s.toNat, by omega⟩ ⟨a, ha⟩
  simpa only [Int.toNat_of_nonneg h0] using this
theorem knightB_b : (knightB s).getLsbD a = knightR s (a : Int) ∧ knightR (a : Int) s = knightR s (a : Int) := by
  have := knightB_bit ⟨s.toNat, by omega⟩ ⟨a, ha⟩
  simpa only [Int.toNat_of_nonneg h0] using this
theorem pawnB_b {c : Int} (c0 : 0 ≤ c) (c1 : c ≤ 1) : (pawnB c s).getLsbD a = pawnHit c s (a : Int) ∧ pawnHit (1 - c) (a : Int) s = pawnHit c s (a : Int) := by
  have := pawnB_bit ⟨c.toNat, by omega⟩ ⟨s.toNat, by omega⟩ ⟨a, ha⟩
  simpa only [Int.toNat_of_nonneg h0, Int.toNat_of_nonneg c0] using this
/-- between two squares of a line: the same from both sides -/
theorem btw_sym (h : (straight s (a : Int) || across s (a : Int)) = true) : btw (a : Int) s = btw s (a : Int) := by
  have key : ∀ d : Int, 0 ≤ d → d < 8 → (rayB s d).getLsbD a = true → btw (a : Int) s = btw s (a : Int) := fun d d0 d1 hr => by
    rw [(ray_path' h0 h1 d0 d1).1] at hr
    obtain ⟨k, hk, e⟩ := (path_bit h0 h1 d0 d1 (Nat.le_refl _) ha).1 hr
    obtain ⟨-, -, e1, e2⟩ := ray_sub' h0 h1 d0 d1 hk
    rw [e, e1, e2]
  rw [← (rayS_b h0 h1 ha).1, ← (rayA_b h0 h1 ha).1] at h
  unfold rayS rayA at h
  simp only [BitVec.getLsbD_or, Bool.or_eq_true] at h
  rcases h with (((h | h) | h) | h) | (((h | h) | h) | h)
  · exact key 0 yd yd h
  · exact key 2 yd yd h
  · exact key 4 yd yd h
  · exact key 6 yd yd h
  · exact key 1 yd yd h
  · exact key 3 yd yd h
  · exact key 5 yd yd h
  · exact key 7 yd yd h
omit h0 h1 ha in
theorem or4 {x1 x2 x3 x4 y : Bool} : ((((false || (x1 && y)) || (x2 && y)) || (x3 && y)) || (x4 && y)) = ((((x1 || x2) || x3) || x4) && y) := by
  cases x1 <;> cases x2 <;> cases x3 <;> cases x4 <;> cases y <;> rfl
theorem rook_bit (occ : BitVec 64) : (rookB s occ).getLsbD a = (straight s (a : Int) && decide (btw (a : Int) s &&& occ = 0#64)) := by
  rw [← (rayS_b h0 h1 ha).1]
  show (((((0#64 ||| dirB s 0 occ) ||| dirB s 2 occ) ||| dirB s 4 occ) ||| dirB s 6 occ)).getLsbD a = _
  simp only [BitVec.getLsbD_or, BitVec.getLsbD_zero, rayS]
  rw [dir_bit h0 h1 yd yd occ ha, dir_bit h0 h1 yd yd occ ha, dir_bit h0 h1 yd yd occ ha, dir_bit h0 h1 yd yd occ ha]
  exact or4
theorem bishop_bit (occ : BitVec 64) : (bishopB s occ).getLsbD a = (across s (a : Int) && decide (btw (a : Int) s &&& occ = 0#64)) := by
  rw [← (rayA_b h0 h1 ha).1]
  show (((((0#64 ||| dirB s 1 occ) ||| dirB s 3 occ) ||| dirB s 5 occ) ||| dirB s 7 occ)).getLsbD a = _
  simp only [BitVec.getLsbD_or, BitVec.getLsbD_zero, rayA]
  rw [dir_bit h0 h1 yd yd occ ha, dir_bit h0 h1 yd yd occ ha, dir_bit h0 h1 yd yd occ ha, dir_bit h0 h1 yd yd occ ha]
  exact or4
omit h0 h1 ha in
theorem and_if {x y z : Bool} (h : x = true → y = z) : (x && y) = (x && z) := by
  cases x with
  | false => rfl
  | true => rw [h rfl]
theorem rook_to (p : Pos) : (rookB s (allB p)).getLsbD a = (straight (a : Int) s && clear p (a : Int) s) := by
  rw [rook_bit h0 h1 ha, (rayS_b h0 h1 ha).2]
  refine and_if fun h => ?_
  rw [clear_btw h0 h1 ha p (by rw [(rayS_b h0 h1 ha).2, h]; rfl)]
theorem bishop_to (p : Pos) : (bishopB s (allB p)).getLsbD a = (across (a : Int) s && clear p (a : Int) s) := by
  rw [bishop_bit h0 h1 ha, (rayA_b h0 h1 ha).2]
  refine and_if fun h => ?_
  rw [clear_btw h0 h1 ha p (by rw [(rayA_b h0 h1 ha).2, h, Bool.or_true])]
theorem rook_from (p : Pos) : (rookB s (allB p)).getLsbD a = (straight s (a : Int) && clear p s (a : Int)) := by
  rw [rook_bit h0 h1 ha]
  refine and_if fun h => ?_
  rw [clear_btw' h0 h1 ha p (by rw [h]; rfl), btw_sym h0 h1 ha (by rw [h]; rfl)]
theorem bishop_from (p : Pos) : (bishopB s (allB p)).getLsbD a = (across s (a : Int) && clear p s (a : Int)) := by
  rw [bishop_bit h0 h1 ha]
  refine and_if fun h => ?_
  rw [clear_btw' h0 h1 ha p (by rw [h, Bool.or_true]), btw_sym h0 h1 ha (by rw [h, Bool.or_true])]
theorem queen_to (p : Pos) : (queenB s (allB p)).getLsbD a = ((straight (a : Int) s || across (a : Int) s) && clear p (a : Int) s) := by
  unfold queenB
  rw [BitVec.getLsbD_or, rook_to h0 h1 ha, bishop_to h0 h1 ha]
  cases straight (a : Int) s <;> cases across (a : Int) s <;> cases clear p (a : Int) s <;> rfl
theorem queen_from (p : Pos) : (queenB s (allB p)).getLsbD a = ((straight s (a : Int) || across s (a : Int)) && clear p s (a : Int)) := by
  unfold queenB
  rw [BitVec.getLsbD_or, rook_from h0 h1 ha, bishop_from h0 h1 ha]
  cases straight s (a : Int) <;> cases across s (a : Int) <;> cases clear p s (a : Int) <;> rfl
end
theorem hits_eq (p : Pos) (a b : Int) : hits p a b = if kind (pb p a) = 1 then pawnHit (pb p a / 8) a b else if kind (pb p a) = 2 then knightR a b else if kind (pb p a) = 6 then beside a b
    else if kind (pb p a) = 4 then straight a b && clear p a b else if kind (pb p a) = 3 then across a b && clear p a b else if kind (pb p a) = 5 then (straight a b || across a b) && clear p a b else false := rfl
theorem kind_le (x : Int) : 0 ≤ kind x ∧ kind x ≤ 6 := by
  unfold kind; split
  · decide
  · rename_i h; simp only [Bool.or_eq_true, decide_eq_true_eq] at h; omega
theorem kind_c {x : Int} (h0 : 0 ≤ x) (h : ¬ kind x = 0) : x / 8 = 0 ∨ x / 8 = 1 := by
  unfold kind at h; split at h
  · exact absurd rfl h
  · rename_i hc; simp only [Bool.or_eq_true, decide_eq_true_eq] at hc; omega
/-- the squares from which a piece attacks s, of the piece's own kind -/
theorem way_hits {p : Pos} {s : Int} (h0 : 0 ≤ s) (h1 : s < 64) {a : Nat} (ha : a < 64) {c : Int} (c0 : 0 ≤ c) (c1 : c ≤ 1) (hk : ¬ kind (pb p (a : Int)) = 0) (hc : pb p (a : Int) / 8 = c) :
    (wayB (kind (pb p (a : Int))) (1 - c) s (allB p)).getLsbD a = hits p (a : Int) s := by
  have hr := kind_le (pb p (a : Int))
  rw [hits_eq, hc]
  unfold wayB
  have : kind (pb p (a : Int)) = 1 ∨ kind (pb p (a : Int)) = 2 ∨ kind (pb p (a : Int)) = 3 ∨ kind (pb p (a : Int)) = 4 ∨ kind (pb p (a : Int)) = 5 ∨ kind (pb p (a : Int)) = 6 := by omega
  rcases this with h | h | h | h | h | h <;> rw [h] <;> simp only [if_true, if_false, show ¬ (2 : Int) = 1 by decide, show ¬ (3 : Int) = 1 by decide, show ¬ (4 : Int) = 1 by decide, show ¬ (5 : Int) = 1 by decide, show ¬ (6 : Int) = 1 by decide,
    show ¬ (3 : Int) = 2 by decide, show ¬ (4 : Int) = 2 by decide, show ¬ (5 : Int) = 2 by decide, show ¬ (6 : Int) = 2 by decide, show ¬ (4 : Int) = 3 by decide, show ¬ (5 : Int) = 3 by decide, show ¬ (6 : Int) = 3 by decide, show ¬ (5 : Int) = 4 by decide, show ¬ (6 : Int) = 4 by decide, show ¬ (6 : Int) = 5 by decide,
    show ¬ (3 : Int) = 6 by decide, show ¬ (4 : Int) = 6 by decide, show ¬ (5 : Int) = 6 by decide, show ¬ (3 : Int) = 4 by decide, show ¬ (5 : Int) = 3 by decide]
  · have hb := pawnB_b h0 h1 ha (c := 1 - c) yo yo
    rw [hb.1, ← hb.2]; congr 1; omega
  · have hb := knightB_b h0 h1 ha
    rw [hb.1, hb.2]
  · exact bishop_to h0 h1 ha p
  · exact rook_to h0 h1 ha p
  · exact queen_to h0 h1 ha p
  · have hb := kingB_b h0 h1 ha
    rw [hb.1, hb.2]
theorem by_ref {p : Pos} {s c : Int} (h0 : 0 ≤ s) (h1 : s < 64) (c0 : 0 ≤ c) (c1 : c ≤ 1) : byB p s c = refBy p s c := by
  unfold byB refBy
  rw [if_neg yo]
  apply BitVec.eq_of_getLsbD_eq
  intro a ha
  rw [setOf_bit _ 64 a (Nat.le_refl _), decide_eq_true ha, Bool.true_and]
  have key : (orTo (byWay p s c) 6).getLsbD a = true ↔ byF p s c a = true := by
    rw [orTo_bit]
    unfold byF byWay
    constructor
    · rintro ⟨i, hi, h⟩
      rw [BitVec.getLsbD_and, ofB_kind p c yo ha, Bool.and_eq_true] at h
      obtain ⟨h2, h3⟩ := h
      unfold isAt at h3
      rw [Bool.and_eq_true] at h3
      have hk := of_decide_eq_true h3.1
      have hc := of_decide_eq_true h3.2
      have hk0 : ¬ kind (pb p (a : Int)) = 0 := by omega
      rw [← hk, way_hits h0 h1 ha c0 c1 hk0 hc] at h2
      rw [decide_eq_false hk0, decide_eq_true hc, h2]; rfl
    · intro h
      simp only [Bool.and_eq_true, Bool.not_eq_true', decide_eq_false_iff_not, decide_eq_true_eq] at h
      obtain ⟨⟨hk0, hc⟩, h2⟩ := h
      have hr := kind_le (pb p (a : Int))
      refine ⟨(kind (pb p (a : Int)) - 1).toNat, by omega, ?_⟩
      rw [show (((kind (pb p (a : Int)) - 1).toNat : Nat) : Int) + 1 = kind (pb p (a : Int)) by omega]
      rw [BitVec.getLsbD_and, way_hits h0 h1 ha c0 c1 hk0 hc, h2, ofB_kind p c hk0 ha]
      unfold isAt
      rw [decide_eq_true rfl, decide_eq_true hc]; rfl
  cases e : byF p s c a with
  | true => exact key.2 e
  | false =>
    cases e2 : (orTo (byWay p s c) 6).getLsbD a with
    | false => rfl
    | true => rw [key.1 e2] at e; cases e
theorem nearKing_iff (p : Pos) (c s : Int) : ∀ n : Nat, nearKing p c s n = true ↔ ∃ m : Nat, m < n ∧ isAt p (m : Int) (1 - c) 6 = true ∧ beside (m : Int) s = true
  | 0 => by simp [nearKing]
  | n + 1 => by
    unfold nearKing
    rw [Bool.or_eq_true, nearKing_iff p c s n, Bool.and_eq_true]
    constructor
    · rintro (⟨m, hm, h⟩ | h)
      · exact ⟨m, by omega, h⟩
      · exact ⟨n, by omega, h⟩
    · rintro ⟨m, hm, h⟩
      by_cases e : m = n
      · subst e; exact .inr h
      · exact .inl ⟨m, by omega, h⟩
theorem near_bits {p : Pos} {c s : Int} (h0 : 0 ≤ s) (h1 : s < 64) : (!decide (kingB s &&& ofB p (1 - c) 6 = 0#64)) = nearKing p c s 64 := by
  cases e : nearKing p c s 64 with
  | true =>
    obtain ⟨m, hm, h2, h3⟩ := (nearKing_iff p c s 64).1 e
    rw [Bool.not_eq_true']
    refine decide_eq_false fun h => and_zero.1 h m hm ?_ ?_
    · rw [(kingB_b h0 h1 hm).1, ← (kingB_b h0 h1 hm).2]; exact h3
    · rw [ofB_kind p _ yd hm]; exact h2
  | false =>
    rw [Bool.not_eq_false']
    refine decide_eq_true (and_zero.2 fun m hm h2 h3 => ?_)
    have : nearKing p c s 64 = true := (nearKing_iff p c s 64).2 ⟨m, hm, by rw [← ofB_kind p _ yd hm]; exact h3, by rw [(kingB_b h0 h1 hm).2, ← (kingB_b h0 h1 hm).1]; exact h2⟩
    rw [e] at this; cases this
theorem king_ref {p : Pos} (hp : POK p) {c : Int} (c0 : 0 ≤ c) (c1 : c ≤ 1) : kingP p c = refKing p c := by
  have hr := find_rng p c 6
  unfold kingP refKing
  rw [royal_ref hp.vr.1 c0, find_first p c yd]
  cases e : refRoyal (vr p) c with
  | false => rfl
  | true =>
    simp only [Bool.not_true, Bool.false_eq_true, if_false, Bool.false_or]
    by_cases hn : find p c 6 < 0
    · rw [decide_eq_true hn]; rfl
    · rw [decide_eq_false hn, near_bits yo hr.2]; rfl
theorem check_ref {p : Pos} (hp : POK p) {c : Int} (c0 : 0 ≤ c) (c1 : c ≤ 1) : checkP p c = refCheck p c := by
  have hr := refKing_rng p c
  unfold checkP refCheck
  rw [king_ref hp c0 c1, if_neg (show ¬ 1 < c by omega)]
  refine and_if fun h => ?_
  have h := of_decide_eq_true h
  rw [if_neg yo, by_ref h hr.2 yo yo]
end Go.Kw
set_option linter.unusedVariables false
namespace Go.Kw
open Go.Proofs


def thereR (p : Pos) : Bool := decide (vr p < 9) && decide (tu p < 2)
def emptyR (p : Pos) (s : Int) : Bool := decide (kind (pb p s) = 0)
def ownR (p : Pos) (s c : Int) : Bool := !emptyR p s && decide (pb p s / 8 = c)
def upR (c : Int) : Int := if c = 0 then 8 else -8
theorem upR_val (c : Int) : upR c = 8 ∨ upR c = -8 := by unfold upR; split <;> simp
def rankR (c s : Int) : Int := if c = 0 then s / 8 else 7 - s / 8
def pawnR (p : Pos) (a b : Int) : Bool :=
  if hits p a b = true then ownR p b (1 - tu p) || decide (pg p = b)
  else if decide (b = a + upR (tu p)) = true then emptyR p b
  else ((decide (b = a + 2 * upR (tu p)) && (decide (rankR (tu p) a = 1) || ((decide (rankR (tu p) a = 0) && decide (vr p = 7)) && decide (tu p = 0)))) && emptyR p (a + upR (tu p))) && emptyR p b
def mayR (p : Pos) (a b : Int) : Bool :=
  if ((decide (a = b) || !ownR p a (tu p)) || ownR p b (tu p)) = true then false
  else if decide (kind (pb p a) = 1) = true then pawnR p a b
  else if decide (kind (pb p a) = 6) = true then hits p a b && (!decide (vr p = 3) || emptyR p b)
  else hits p a b
theorem there_tu {p : Pos} (h : (!thereR p) = false) : tu p ≤ 1 := by
  have : thereR p = true := by simpa using h
  have := of_decide_eq_true (Bool.and_eq_true_iff.1 this).2
  omega
def oneR (p : Pos) (a b : Int) : Bool := !decide (kind (pb p a) = 1) || !decide (rankR (tu p) b = 7)
def mvR (a b : Int) : Mv := (a, b, (0 : Int), (0 : Int), false, ())
def mvsR (p : Pos) (a b : Int) : List Mv := if mayR p a b = true then (if oneR p a b = true then [mvR a b] else (show List Int from promP (vr p)).map (setProm (mvR a b))) else []
def rowR (p : Pos) (a : Int) (j : Nat) : List Mv := (List.range j).flatMap fun b : Nat => mvsR p a (b : Int)
def listI (p : Pos) (i : Nat) : List Mv := (List.range i).flatMap fun a : Nat => rowR p (a : Int) 64
def listJ (p : Pos) (i j : Nat) : List Mv := listI p i ++ rowR p (i : Int) j
def listK (p : Pos) (i j kq : Nat) : List Mv := listJ p i j ++ ((show List Int from promP (vr p)).take kq).map (setProm (mvR (i : Int) (j : Int)))
def list13 (p : Pos) : List Mv := if (!thereR p) = true then [] else listI p 64
theorem list13_n {p : Pos} (h : (!thereR p) = true) : list13 p = [] := by unfold list13; rw [if_pos h]
theorem list13_y {p : Pos} (h : (!thereR p) = false) : list13 p = listI p 64 := by unfold list13; rw [if_neg xasy]
theorem range_flat {α : Type} (f : Nat → List α) (n : Nat) : (List.range (n + 1)).flatMap f = (List.range n).flatMap f ++ f n := by
  rw [List.range_succ, List.flatMap_append]; simp
theorem listJ_0 (p : Pos) (i : Nat) : listJ p i 0 = listI p i := by unfold listJ rowR; simp
theorem listJ_next (p : Pos) (i j : Nat) : listJ p i (j + 1) = listJ p i j ++ mvsR p (i : Int) (j : Int) := by
  unfold listJ rowR; rw [range_flat, List.append_assoc]
theorem listJ_64 (p : Pos) (i j : Nat) (h : j = 64) : listJ p i j = listI p (i + 1) := by
  subst h; unfold listJ listI; rw [range_flat]
theorem listJ_no (p : Pos) (i j : Nat) (h : mayR p (i : Int) (j : Int) = false) : listJ p i (j + 1) = listJ p i j := by
  rw [listJ_next, mvsR, if_neg xasy]; exact List.append_nil _
theorem listJ_one (p : Pos) (i j : Nat) (h : mayR p (i : Int) (j : Int) = true) (h2 : oneR p (i : Int) (j : Int) = true) : listJ p i (j + 1) = listJ p i j ++ [mvR (i : Int) (j : Int)] := by
  rw [listJ_next, mvsR, if_pos h, if_pos h2]
theorem listJ_many (p : Pos) (i j kq : Nat) (h : mayR p (i : Int) (j : Int) = true) (h2 : oneR p (i : Int) (j : Int) = false) (hk : (promP (vr p)).length ≤ kq) : listJ p i (j + 1) = listK p i j kq := by
  rw [listJ_next, mvsR, if_pos h, if_neg (by rw [h2]; simp)]
  unfold listK
  have e : (show List Int from promP (vr p)).take kq = promP (vr p) := List.take_of_length_le hk
  rw [e]
theorem listK_0 (p : Pos) (i j : Nat) : listK p i j 0 = listJ p i j := by unfold listK; simp
theorem listK_next (p : Pos) (i j kq : Nat) (h : kq < (promP (vr p)).length) : listK p i j (kq + 1) = listK p i j kq ++ [setProm (mvR (i : Int) (j : Int)) ((promP (vr p)).getD ((kq : Nat) : Int).toNat (zero u8))] := by
  have key : ∀ (l : List Int) (A : List Mv) (m : Mv), kq < l.length → A ++ (l.take (kq + 1)).map (setProm m) = (A ++ (l.take kq).map (setProm m)) ++ [setProm m (l.getD kq 0)] := fun l A m hl => by
    rw [List.getD_eq_getElem?_getD, List.getElem?_eq_getElem hl, List.append_assoc, List.map_take, List.map_take, List.take_add_one, List.getElem?_map, List.getElem?_eq_getElem hl]; rfl
  exact key _ _ _ h
theorem mvsR_len (p : Pos) (a b : Int) : (mvsR p a b).length ≤ 5 := by
  unfold mvsR; split
  · split
    · exact Nat.le_of_ble_eq_true rfl
    · rw [List.length_map]; exact prom_len _
  · exact Nat.zero_le _
theorem range_len {α : Type} (f : Nat → List α) (c : Nat) (hf : ∀ x, (f x).length ≤ c) : ∀ n, ((List.range n).flatMap f).length ≤ n * c
  | 0 => by simp
  | n + 1 => by
    have h1 := range_len f c hf n
    have h2 := hf n
    rw [range_flat, List.length_append, Nat.add_mul]; omega
theorem rowR_len (p : Pos) (a : Int) (j : Nat) : (rowR p a j).length ≤ j * 5 := range_len _ 5 (fun b => mvsR_len p a _) j
theorem listI_len (p : Pos) (i : Nat) : (listI p i).length ≤ i * 320 := range_len _ 320 (fun a => rowR_len p _ 64) i
theorem listJ_len (p : Pos) (i j : Nat) (hi : i ≤ 64) (hj : j ≤ 64) : (listJ p i j).length ≤ 20800 := by
  have h1 := listI_len p i
  have h2 := rowR_len p (i : Int) j
  unfold listJ; rw [List.length_append]; omega
theorem listK_len (p : Pos) (i j kq : Nat) (hi : i ≤ 64) (hj : j ≤ 64) : (listK p i j kq).length ≤ 20900 := by
  have h1 := listJ_len p i j hi hj
  have h2 := prom_len (vr p)
  have h3 : ((show List Int from promP (vr p)).take kq).length ≤ 5 := Nat.le_trans (List.length_take_le' _ _) h2
  unfold listK; rw [List.length_append, List.length_map]; omega

theorem c_ref07_Castles (v : Int) (M : List Fact) (h0 : 0 ≤ v) : Pure Tryz.prog 87 [.int .u8 v] M (.bool (castlesP v)) := by
 refine pure_of_W (n := 13) Tryz.func87 rfl rfl yn ?_
 refine w1 ((yA_ ?_))
 refine RO_nil (w1 ((yM ?_)))
 refine yR (ov_lss rfl rfl rfl) ?_
 refine yM ?_
 refine gM ?_
 refine yG (fun hg => OpX.v (ov_neq rfl (look_gv rfl (bq hg)) rfl)) ?_
 refine yR (ov_and rfl rfl rfl rfl (fun h => bq h)) ?_
 refine yM ?_
 refine gM ?_
 refine yG (fun hg => OpX.v (ov_neq rfl (look_gv rfl (bq hg)) rfl)) ?_
 refine yR (ov_and rfl rfl rfl rfl (fun h => bq h)) ?_
 refine yA_ ?_
 refine RO_nil (W_ret ⟨trivial, yb, (ResV_tmp1 rfl rfl ?_)⟩)
 exact val_bool (castles_val h0).symm

theorem c_ref07_Promotes (v : Int) (M : List Fact) : Con Tryz.prog 134 [.int .u8 v] M (fun u M' => M' = .row u 5 u8 (promP v) :: M) := by
 refine con_of_W (n := 11) Tryz.func134 rfl rfl yn ?_
 refine w1 ((yA_ ?_))
 refine RO_nil (W_seq (W_block (w1 ((yM ?_)))))
 refine yR (ov_eql rfl rfl rfl) ?_
 refine yA_ ?_
 refine RO_nil (W_cond rfl (fun hc1 => ?_) (fun hc1 => ?_))
 ·
  try simp only [yS] at hc1
  refine w2 (fun w0 => ?_)
  refine LO_l rfl (by decide : 6 < 11) (ol_buildSlice (t := u8) (xs := [_, _, _, _, _]) rfl rfl rfl Tryz.underlying43 tok5 xaey yd yd yd (fun v1 => ?_))
  refine zA ?_
  refine LO_nil (W_ret ⟨trivial, _, .row _ 5 u8 (promP v) :: M, (ResV_tmp1 rfl rfl rfl), ?_, rfl⟩)
  exact xboy
 ·
  try simp only [yS] at hc1
  refine w1 ((yM ?_))
  refine yR (ov_lss rfl rfl rfl) ?_
  refine yA_ ?_
  refine RO_nil (W_cond rfl (fun hc2 => ?_) (fun hc2 => ?_))
  ·
   try simp only [yS] at hc2
   refine w2 (fun w0 => ?_)
   refine LO_l rfl (by decide : 10 < 11) (ol_buildSlice (t := u8) (xs := [_, _, _, _]) rfl rfl rfl Tryz.underlying43 tok5 xaey yd yd yd (fun v2 => ?_))
   refine zA ?_
   refine LO_nil (W_ret ⟨trivial, _, .row _ 5 u8 (promP v) :: M, (ResV_tmp1 rfl rfl rfl), ?_, rfl⟩)
   exact xboy
  ·
   try simp only [yS] at hc2
   refine W_skip (W_seq (W_row 5 u8 ?_))
   refine W_reg (yA_ ?_)
   refine RO_nil (W_ret ⟨trivial, _, .row _ 5 u8 (promP v) :: M, (ResV_tmp1 rfl rfl rfl), ?_, rfl⟩)
   exact xboy

theorem c_ref13_There (p : Pos) (hp : POK p) (M : List Fact) : Pure Tryz.prog 23 [enc posT p] M (.bool (thereR p)) := by
 obtain ⟨hb, hpw, hvr, htu, hpg, hvr0, htu0⟩ := hp.head
 refine pure_of_W (n := 11) Tryz.func23 rfl rfl yn ?_
 refine w2 (fun w0 => ?_)
 refine LO_l rfl (by decide : 1 < 11) (ol_box (t := posT) rfl rfl rfl yf (fun b1 => ?_))
 refine zA ?_
 refine LO_nil (w1 ((yR (ov_fieldAddr rfl rfl fa31_0 rfl) ?_)))
 refine yR (ov_load rfl rfl ye ⟨trivial, yn⟩ rfl rfl tok5) ?_
 refine yR (ov_lss rfl rfl rfl) ?_
 refine yM ?_
 refine yG (fun hg => OpX.v (ov_fieldAddr rfl rfl fa31_4 rfl)) ?_
 refine yG (fun hg => OpX.v (ov_load rfl (look_gv rfl (bq hg)) ye ⟨trivial, yn⟩ rfl rfl tok5)) ?_
 refine yG (fun hg => OpX.v (ov_lss rfl (look_gv rfl (bq hg)) rfl)) ?_
 refine yR (ov_and rfl rfl rfl rfl (fun h => bq h)) ?_
 refine yA_ ?_
 refine RO_nil (W_ret ⟨trivial, yb, (ResV_tmp1 rfl rfl ?_)⟩)
 rfl

theorem c_ref13_Empty (p : Pos) (hp : POK p) (s : Int) (M : List Fact) (h0 : 0 ≤ s) (h1 : s < 64) : Pure Tryz.prog 155 [enc posT p, .int .i64 s] M (.bool (emptyR p s)) := by
 obtain ⟨hb, hpw, hvr, htu, hpg, hvr0, htu0⟩ := hp.head
 refine pure_of_W (n := 11) Tryz.func155 rfl rfl yn ?_
 refine w2 (fun w0 => ?_)
 refine LO_l rfl (by decide : 2 < 11) (ol_box (t := posT) rfl rfl rfl yf (fun b1 => ?_))
 refine zA ?_
 refine LO_nil (w1 ((yM ?_)))
 refine yR (ov_fieldAddr rfl rfl fa31_1 rfl) ?_
 refine yR (ov_indexAddr rfl rfl rfl Tryz.underlying22 rfl Tryz.sizeOf5 ya ya) ?_
 refine yR (ov_load rfl rfl ye ⟨⟨trivial, yn⟩, (tn ya ya)⟩ rfl rfl tok5) ?_
 refine yP (yV rfl rfl rfl Tryz.call84 xany) ?_
 refine yR (ov_eql rfl rfl rfl) ?_
 refine yA_ ?_
 refine RO_nil (W_ret ⟨trivial, yb, (ResV_tmp1 rfl rfl ?_)⟩)
 rfl

theorem c_ref13_Own (p : Pos) (hp : POK p) (s c : Int) (M : List Fact) (h0 : 0 ≤ s) (h1 : s < 64) : Pure Tryz.prog 153 [enc posT p, .int .i64 s, .int .u8 c] M (.bool (ownR p s c)) := by
 obtain ⟨hb, hpw, hvr, htu, hpg, hvr0, htu0⟩ := hp.head
 refine pure_of_W (n := 20) Tryz.func153 rfl rfl yn ?_
 refine w2 (fun w0 => ?_)
 refine LO_l rfl (by decide : 3 < 20) (ol_box (t := posT) rfl rfl rfl yf (fun b1 => ?_))
 refine zA ?_
 refine LO_nil (w1 ((yR (ov_load rfl rfl ye trivial rfl rfl tok31) ?_)))
 refine yM ?_
 refine yP (yV rfl rfl rfl Tryz.call155 (by apply c_ref13_Empty <;> exact yz)) ?_
 refine yR (ov_not rfl rfl) ?_
 refine yM ?_
 refine gM ?_
 refine yG (fun hg => OpX.v (ov_fieldAddr rfl rfl fa31_1 rfl)) ?_
 refine yG (fun hg => OpX.v (ov_indexAddr rfl (look_gv rfl (bq hg)) (look_gv rfl (bq hg)) Tryz.underlying22 rfl Tryz.sizeOf5 ya ya)) ?_
 refine yG (fun hg => OpX.v (ov_load rfl (look_gv rfl (bq hg)) ye ⟨⟨trivial, yn⟩, (tn ya ya)⟩ rfl rfl tok5)) ?_
 refine yG (fun hg => yV rfl rfl (looks_cons (look_gv rfl (bq hg)) looks_nil) Tryz.call131 (by apply c_ref08_Color <;> exact yz)) ?_
 refine gM ?_
 refine yG (fun hg => OpX.v (ov_eql rfl (look_gv rfl (bq hg)) (look_gv rfl (bq hg)))) ?_
 refine yR (ov_and rfl rfl rfl rfl (fun h => bq h)) ?_
 refine yA_ ?_
 refine RO_nil (W_ret ⟨trivial, yb, (ResV_tmp1 rfl rfl ?_)⟩)
 rfl

theorem c_ref13_Up (c : Int) (M : List Fact) : Pure Tryz.prog 156 [.int .u8 c] M (.int .i64 (upR c)) := by
 refine pure_of_W (n := 5) Tryz.func156 rfl rfl yn ?_
 refine w1 ((yA_ ?_))
 refine RO_nil (W_seq (w1 ((yM ?_))))
 refine yR (ov_eql rfl rfl rfl) ?_
 refine RO_nil (W_cond rfl (fun hc1 => ?_) (fun hc1 => ?_))
 ·
  try simp only [yS] at hc1
  refine w1 ((yA_ ?_))
  refine RO_nil (W_ret ⟨trivial, yb, (ResV_tmp1 rfl rfl ?_)⟩)
  exact val_int (by unfold upR; first | exact (if_pos xaky).symm | exact (if_neg xaky).symm)
 ·
  try simp only [yS] at hc1
  refine W_skip (w1 ((yA_ ?_)))
  refine RO_nil (W_ret ⟨trivial, yb, (ResV_tmp1 rfl rfl ?_)⟩)
  exact val_int (by unfold upR; first | exact (if_pos xaky).symm | exact (if_neg xaky).symm)

theorem c_ref13_Rank (c s : Int) (M : List Fact) (h0 : 0 ≤ s) (h1 : s < 64) : Pure Tryz.prog 133 [.int .u8 c, .int .i64 s] M (.int .i64 (rankR c s)) := by
 refine pure_of_W (n := 12) Tryz.func133 rfl rfl yn ?_
 refine w1 ((yA_ ?_))
 refine RO_nil (W_seq (w1 ((yM ?_))))
 refine yR (ov_eql rfl rfl rfl) ?_
 refine RO_nil (W_cond rfl (fun hc1 => ?_) (fun hc1 => ?_))
 ·
  try simp only [yS] at hc1
  refine w1 ((yM ?_))
  refine yR (ov_quo_pos rfl rfl rfl ya ya ya) ?_
  refine yA_ ?_
  refine RO_nil (W_ret ⟨trivial, yb, (ResV_tmp1 rfl rfl ?_)⟩)
  exact val_int (by unfold rankR; first | exact (if_pos xaky).symm | exact (if_neg xaky).symm)
 ·
  try simp only [yS] at hc1
  refine W_skip (w1 ((yM ?_)))
  refine yR (ov_quo_pos rfl rfl rfl ya ya ya) ?_
  refine yR (ov_sub rfl rfl rfl ya) ?_
  refine yA_ ?_
  refine RO_nil (W_ret ⟨trivial, yb, (ResV_tmp1 rfl rfl ?_)⟩)
  exact val_int (by unfold rankR; first | exact (if_pos xaky).symm | exact (if_neg xaky).symm)

theorem c_ref13_pawn (p : Pos) (hp : POK p) (a b : Int) (M : List Fact) (ht : tu p ≤ 1) (h0 : 0 ≤ a) (h1 : a < 64) (h2 : 0 ≤ b) (h3 : b < 64) : Pure Tryz.prog 177 [enc posT p, .int .i64 a, .int .i64 b] M (.bool (pawnR p a b)) := by
 obtain ⟨hb, hpw, hvr, htu, hpg, hvr0, htu0⟩ := hp.head
 have ht2 := ht
 simp only [tu] at ht2
 have hpg0 := hp.pg
 simp only [pg] at hpg0
 have hup := upR_val (tu p)
 have hup0 : upR p.2.2.2.2.1 = 8 ∨ upR p.2.2.2.2.1 = -8 := hup
 refine pure_of_W (n := 79) Tryz.func177 rfl rfl yn ?_
 refine w2 (fun w0 => ?_)
 refine LO_l rfl (by decide : 3 < 79) (ol_box (t := posT) rfl rfl rfl yf (fun b1 => ?_))
 refine zA ?_
 refine LO_nil (w1 ((yR (ov_fieldAddr rfl rfl fa31_4 rfl) ?_)))
 refine yR (ov_load rfl rfl ye ⟨trivial, yn⟩ rfl rfl tok5) ?_
 refine yP (yV rfl rfl rfl Tryz.call156 (by apply c_ref13_Up <;> exact yz)) ?_
 refine yA_ ?_
 refine RO_nil (W_seq (w1 ((yR (ov_load rfl rfl ye trivial rfl rfl tok31) ?_))))
 refine yM ?_
 refine yM ?_
 refine yP (yV rfl rfl rfl Tryz.call90 (by apply c_ref08_Hits <;> exact yz)) ?_
 refine RO_nil (W_cond rfl (fun hc1 => ?_) (fun hc1 => ?_))
 ·
  refine w1 ((yR (ov_load rfl rfl ye trivial rfl rfl tok31) ?_))
  refine yM ?_
  refine yR (ov_fieldAddr rfl rfl fa31_4 rfl) ?_
  refine yR (ov_load rfl rfl ye ⟨trivial, yn⟩ rfl rfl tok5) ?_
  refine yR (ov_sub rfl rfl rfl ya) ?_
  refine yP (yV rfl rfl rfl Tryz.call153 (by apply c_ref13_Own <;> exact yz)) ?_
  refine yM ?_
  refine yG (fun hg => OpX.v (ov_fieldAddr rfl rfl fa31_6 rfl)) ?_
  refine yG (fun hg => OpX.v (ov_load rfl (look_gv rfl (bq hg)) ye ⟨trivial, yn⟩ rfl rfl tok26)) ?_
  refine yG (fun hg => OpX.v (ov_convn rfl (look_gv rfl (bq hg)) Tryz.underlying26 Tryz.underlying3 ya)) ?_
  refine gM ?_
  refine yG (fun hg => OpX.v (ov_eql rfl (look_gv rfl (bq hg)) (look_gv rfl (bq hg)))) ?_
  refine yR (ov_or rfl rfl rfl rfl (fun h => bq h)) ?_
  refine yA_ ?_
  refine RO_nil (W_ret ⟨trivial, yb, (ResV_tmp1 rfl rfl ?_)⟩)
  exact xbpy
 ·
  refine W_skip (W_seq (w1 ((yM ?_))))
  refine yM ?_
  refine yM ?_
  refine yR (ov_add rfl rfl rfl ya) ?_
  refine yR (ov_eql rfl rfl rfl) ?_
  refine RO_nil (W_cond rfl (fun hc2 => ?_) (fun hc2 => ?_))
  ·
   refine w1 ((yR (ov_load rfl rfl ye trivial rfl rfl tok31) ?_))
   refine yM ?_
   refine yP (yV rfl rfl rfl Tryz.call155 (by apply c_ref13_Empty <;> exact yz)) ?_
   refine yA_ ?_
   refine RO_nil (W_ret ⟨trivial, yb, (ResV_tmp1 rfl rfl ?_)⟩)
   exact xbpy
  ·
   refine W_skip (w1 ((yR (ov_fieldAddr rfl rfl fa31_4 rfl) ?_)))
   refine yR (ov_load rfl rfl ye ⟨trivial, yn⟩ rfl rfl tok5) ?_
   refine yM ?_
   refine yP (yV rfl rfl rfl Tryz.call133 (by apply c_ref13_Rank <;> exact yz)) ?_
   refine yA_ ?_
   refine RO_nil (w1 ((yM ?_)))
   refine yR (ov_eql rfl rfl rfl) ?_
   refine yM ?_
   refine gM ?_
   refine yG (fun hg => OpX.v (ov_eql rfl (look_gv rfl (bq hg)) rfl)) ?_
   refine yG (fun hg => OpX.v (ov_move rfl (look_gv rfl (bq hg)))) ?_
   refine RO_g rfl rfl rfl rfl rfl yd (fun hg1 hg2 => OpX.v (ov_fieldAddr rfl rfl fa31_0 rfl)) ?_
   refine RO_g rfl rfl rfl rfl rfl yd (fun hg1 hg2 => OpX.v (ov_load rfl (look_gv rfl (bq2 hg1 hg2)) ye ⟨trivial, yn⟩ rfl rfl tok5)) ?_
   refine RO_g rfl rfl rfl rfl rfl yd (fun hg1 hg2 => OpX.v (ov_eql rfl (look_gv rfl (bq2 hg1 hg2)) rfl)) ?_
   refine yG (fun hg => OpX.v (ov_and rfl (look_gv rfl (bq hg)) rfl rfl (fun h => bq2 (bq hg) h))) ?_
   refine yG (fun hg => OpX.v (ov_move rfl (look_gv rfl (bq hg)))) ?_
   refine RO_g rfl rfl rfl rfl rfl yd (fun hg1 hg2 => OpX.v (ov_fieldAddr rfl rfl fa31_4 rfl)) ?_
   refine RO_g rfl rfl rfl rfl rfl yd (fun hg1 hg2 => OpX.v (ov_load rfl (look_gv rfl (bq2 hg1 hg2)) ye ⟨trivial, yn⟩ rfl rfl tok5)) ?_
   refine RO_g rfl rfl rfl rfl rfl yd (fun hg1 hg2 => OpX.v (ov_eql rfl (look_gv rfl (bq2 hg1 hg2)) rfl)) ?_
   refine yG (fun hg => OpX.v (ov_and rfl (look_gv rfl (bq hg)) rfl rfl (fun h => bq2 (bq hg) h))) ?_
   refine yR (ov_or rfl rfl rfl rfl (fun h => bq h)) ?_
   refine yA_ ?_
   refine RO_nil (w1 ((yM ?_)))
   refine yM ?_
   refine yM ?_
   refine yR (ov_mul rfl rfl rfl ya) ?_
   refine yR (ov_add rfl rfl rfl ya) ?_
   refine yR (ov_eql rfl rfl rfl) ?_
   refine yM ?_
   refine gM ?_
   refine yR (ov_and rfl rfl rfl rfl (fun h => bq h)) ?_
   refine yM ?_
   refine yG (fun hg => OpX.v (ov_load rfl rfl ye trivial rfl rfl tok31)) ?_
   refine gM ?_
   refine gM ?_
   refine RO_g1 rfl rfl rfl rfl rfl yd (fun hg => by have hgx := hg; (try simp only [yS] at hgx); exact OpX.v (ov_add rfl (look_gv rfl (bq hg)) (look_gv rfl (bq hg)) ya)) ?_
   refine RO_g1 rfl rfl rfl rfl rfl yd (fun hg => by have hgx := hg; (try simp only [yS] at hgx); exact yV rfl rfl (looks_cons (look_gv rfl (bq hg)) (looks_cons (look_gv rfl (bq hg)) looks_nil)) Tryz.call155 (by apply c_ref13_Empty <;> exact yz)) ?_
   refine yR (ov_and rfl rfl rfl rfl (fun h => bq h)) ?_
   refine yM ?_
   refine yG (fun hg => OpX.v (ov_load rfl rfl ye trivial rfl rfl tok31)) ?_
   refine gM ?_
   refine yG (fun hg => yV rfl rfl (looks_cons (look_gv rfl (bq hg)) (looks_cons (look_gv rfl (bq hg)) looks_nil)) Tryz.call155 (by apply c_ref13_Empty <;> exact yz)) ?_
   refine yR (ov_and rfl rfl rfl rfl (fun h => bq h)) ?_
   refine yA_ ?_
   refine RO_nil (W_ret ⟨trivial, yb, (ResV_tmp1 rfl rfl ?_)⟩)
   exact xbpy

theorem c_ref13_May (p : Pos) (hp : POK p) (a b : Int) (M : List Fact) (ht : tu p ≤ 1) (h0 : 0 ≤ a) (h1 : a < 64) (h2 : 0 ≤ b) (h3 : b < 64) : Pure Tryz.prog 132 [enc posT p, .int .i64 a, .int .i64 b] M (.bool (mayR p a b)) := by
 obtain ⟨hb, hpw, hvr, htu, hpg, hvr0, htu0⟩ := hp.head
 have ht2 := ht
 simp only [tu] at ht2
 refine pure_of_W (n := 56) Tryz.func132 rfl rfl yn ?_
 refine w2 (fun w0 => ?_)
 refine LO_l rfl (by decide : 3 < 56) (ol_box (t := posT) rfl rfl rfl yf (fun b1 => ?_))
 refine zA ?_
 refine LO_nil (W_seq (w1 ((yM ?_))))
 refine yM ?_
 refine yR (ov_eql rfl rfl rfl) ?_
 refine yM ?_
 refine yG (fun hg => OpX.v (ov_load rfl rfl ye trivial rfl rfl tok31)) ?_
 refine gM ?_
 refine yG (fun hg => OpX.v (ov_fieldAddr rfl rfl fa31_4 rfl)) ?_
 refine yG (fun hg => OpX.v (ov_load rfl (look_gv rfl (bq hg)) ye ⟨trivial, yn⟩ rfl rfl tok5)) ?_
 refine yG (fun hg => yV rfl rfl (looks_cons (look_gv rfl (bq hg)) (looks_cons (look_gv rfl (bq hg)) (looks_cons (look_gv rfl (bq hg)) looks_nil))) Tryz.call153 (by apply c_ref13_Own <;> exact yz)) ?_
 refine yG (fun hg => OpX.v (ov_not rfl (look_gv rfl (bq hg)))) ?_
 refine yR (ov_or rfl rfl rfl rfl (fun h => bq h)) ?_
 refine yM ?_
 refine yG (fun hg => OpX.v (ov_load rfl rfl ye trivial rfl rfl tok31)) ?_
 refine gM ?_
 refine yG (fun hg => OpX.v (ov_fieldAddr rfl rfl fa31_4 rfl)) ?_
 refine yG (fun hg => OpX.v (ov_load rfl (look_gv rfl (bq hg)) ye ⟨trivial, yn⟩ rfl rfl tok5)) ?_
 refine yG (fun hg => yV rfl rfl (looks_cons (look_gv rfl (bq hg)) (looks_cons (look_gv rfl (bq hg)) (looks_cons (look_gv rfl (bq hg)) looks_nil))) Tryz.call153 (by apply c_ref13_Own <;> exact yz)) ?_
 refine yR (ov_or rfl rfl rfl rfl (fun h => bq h)) ?_
 refine RO_nil (W_cond rfl (fun hc1 => ?_) (fun hc1 => ?_))
 ·
  refine w1 ((yA_ ?_))
  refine RO_nil (W_ret ⟨trivial, yb, (ResV_tmp1 rfl rfl ?_)⟩)
  exact xbqy
 ·
  refine W_skip (W_seq (w1 ((yM ?_))))
  refine yR (ov_fieldAddr rfl rfl fa31_1 rfl) ?_
  refine yR (ov_indexAddr rfl rfl rfl Tryz.underlying22 rfl Tryz.sizeOf5 ya ya) ?_
  refine yR (ov_load rfl rfl ye ⟨⟨trivial, yn⟩, (tn ya ya)⟩ rfl rfl tok5) ?_
  refine yP (yV rfl rfl rfl Tryz.call84 xany) ?_
  refine RO_nil (W_block (w1 ((yR (ov_eql rfl rfl rfl) ?_))))
  refine yA_ ?_
  refine RO_nil (W_cond rfl (fun hc2 => ?_) (fun hc2 => ?_))
  ·
   refine w1 ((yR (ov_load rfl rfl ye trivial rfl rfl tok31) ?_))
   refine yM ?_
   refine yM ?_
   refine yP (yV rfl rfl rfl Tryz.call177 (by apply c_ref13_pawn <;> exact yz)) ?_
   refine yA_ ?_
   refine RO_nil (W_ret ⟨trivial, yb, (ResV_tmp1 rfl rfl ?_)⟩)
   exact xbqy
  ·
   refine w1 ((yR (ov_eql rfl rfl rfl) ?_))
   refine yA_ ?_
   refine RO_nil (W_cond rfl (fun hc3 => ?_) (fun hc3 => ?_))
   ·
    refine w1 ((yR (ov_load rfl rfl ye trivial rfl rfl tok31) ?_))
    refine yM ?_
    refine yM ?_
    refine yP (yV rfl rfl rfl Tryz.call90 (by apply c_ref08_Hits <;> exact yz)) ?_
    refine yM ?_
    refine yG (fun hg => OpX.v (ov_fieldAddr rfl rfl fa31_0 rfl)) ?_
    refine yG (fun hg => OpX.v (ov_load rfl (look_gv rfl (bq hg)) ye ⟨trivial, yn⟩ rfl rfl tok5)) ?_
    refine yG (fun hg => OpX.v (ov_neq rfl (look_gv rfl (bq hg)) rfl)) ?_
    refine yG (fun hg => OpX.v (ov_move rfl (look_gv rfl (bq hg)))) ?_
    refine RO_g rfl rfl rfl rfl rfl yd (fun hg1 hg2 => OpX.v (ov_load rfl rfl ye trivial rfl rfl tok31)) ?_
    refine RO_g rfl rfl rfl rfl rfl yd (fun hg1 hg2 => OpX.v (ov_move rfl rfl)) ?_
    refine RO_g rfl rfl rfl rfl rfl yd (fun hg1 hg2 => yV rfl rfl (looks_cons (look_gv rfl (bq2 hg1 hg2)) (looks_cons (look_gv rfl (bq2 hg1 hg2)) looks_nil)) Tryz.call155 (by apply c_ref13_Empty <;> exact yz)) ?_
    refine yG (fun hg => OpX.v (ov_or rfl (look_gv rfl (bq hg)) rfl rfl (fun h => bq2 (bq hg) h))) ?_
    refine yR (ov_and rfl rfl rfl rfl (fun h => bq h)) ?_
    refine yA_ ?_
    refine RO_nil (W_ret ⟨trivial, yb, (ResV_tmp1 rfl rfl ?_)⟩)
    exact xbqy
   ·
    refine W_skip (w1 ((yR (ov_load rfl rfl ye trivial rfl rfl tok31) ?_)))
    refine yM ?_
    refine yM ?_
    refine yP (yV rfl rfl rfl Tryz.call90 (by apply c_ref08_Hits <;> exact yz)) ?_
    refine yA_ ?_
    refine RO_nil (W_ret ⟨trivial, yb, (ResV_tmp1 rfl rfl ?_)⟩)
    exact xbqy

theorem c_ref13_List (p : Pos) (hp : POK p) (M : List Fact) : Con Tryz.prog 60 [enc posT p] M (fun u M' => M' = .row u 55 moveT (list13 p) :: M) := by
 obtain ⟨hb, hpw, hvr, htu, hpg, hvr0, htu0⟩ := hp.head
 have hpl := prom_len (vr p)
 refine con_of_W (n := 67) Tryz.func60 rfl rfl yn ?_
 refine w2 (fun w0 => ?_)
 refine LO_l rfl (by decide : 1 < 67) (ol_box (t := posT) rfl rfl rfl yf (fun b1 => ?_))
 refine zA ?_
 refine LO_nil (W_seq (W_row 55 moveT ?_))
 refine W_reg (yA_ ?_)
 refine RO_nil (W_seq (w1 ((yR (ov_load rfl rfl ye trivial rfl rfl tok31) ?_))))
 refine yP (yV rfl rfl rfl Tryz.call23 (by apply c_ref13_There <;> exact yz)) ?_
 refine yR (ov_not rfl rfl) ?_
 refine RO_nil (W_cond rfl (fun hc1 => ?_) (fun hc1 => ?_))
 ·
  refine w1 ((yM ?_))
  refine yA_ ?_
  refine RO_nil (W_ret ⟨trivial, _, .row _ 55 moveT (list13 p) :: M, (ResV_tmp1 rfl rfl rfl), ?_, rfl⟩)
  first | (rw [list13_n hc1]; exact yb) | (rw [list13_y hc1, show 64 = i by omega]; exact yb)
 ·
  have hth := there_tu hc1
  have hth0 := hth
  simp only [tu] at hth0
  refine W_skip (W_seq (w1 ((yA_ ?_))))
  refine RO_nil (W_block (W_loop (σ := Nat × Value) (fun s => s.1 ≤ 64) (fun s => [(1, ptrv b1 posT []), (4, .int .i64 (s.1 : Int)), (3, s.2)]) (fun s => .row s.2 55 moveT (listI p s.1) :: .box b1 31 posT p :: M) (fun s => 64 - s.1) ((0, .slice none 0 0)) (by simp) ⟨rfl, rfl, rfl, trivial⟩ yb ?_))
  rintro ⟨i, v⟩ hI
  simp only at hI
  refine W_seq (w1 ((yM ?_)))
  refine yR (ov_lss rfl rfl rfl) ?_
  refine RO_nil (W_cond rfl (fun hc2 => ?_) (fun hc2 => ?_))
  ·
   try simp only [yS] at hc2
   refine W_skip (W_seq (W_block (w1 ((yA_ ?_)))))
   refine RO_nil (W_block (W_loop (σ := Nat × Value) (fun s => s.1 ≤ 64) (fun s => [(1, ptrv b1 posT []), (4, .int .i64 (i : Int)), (5, .int .i64 (s.1 : Int)), (3, s.2)]) (fun s => .row s.2 55 moveT (listJ p i s.1) :: .box b1 31 posT p :: M) (fun s => 64 - s.1) ((0, v)) (by simp) ⟨rfl, rfl, rfl, rfl, trivial⟩ (by show List.Sublist (Fact.row v 55 moveT (listJ p i 0) :: _) _; rw [listJ_0]; exact yb) ?_))
   rintro ⟨j, v6⟩ hJ
   simp only at hJ
   refine W_seq (w1 ((yM ?_)))
   refine yR (ov_lss rfl rfl rfl) ?_
   refine RO_nil (W_cond rfl (fun hc3 => ?_) (fun hc3 => ?_))
   ·
    try simp only [yS] at hc3
    have hij := listJ_len p i j yo yo
    refine W_skip (W_seq (W_block (W_seq (w1 ((yR (ov_load rfl rfl ye trivial rfl rfl tok31) ?_))))))
    refine yM ?_
    refine yM ?_
    refine yP (yV rfl rfl rfl Tryz.call132 (by apply c_ref13_May <;> exact yz)) ?_
    refine yR (ov_not rfl rfl) ?_
    refine RO_nil (W_cond rfl (fun hc4 => ?_) (fun hc4 => ?_))
    ·
     refine W_exit (W_reg (yM ?_))
     refine yR (ov_add rfl rfl rfl ya) ?_
     refine yA_ ?_
     refine RO_nil ?_
     exact ⟨(j + 1, _), xaly, xaly, ⟨rfl, rfl, rfl, rfl, trivial⟩, (by first | (rw [listJ_no p i j (by simpa using hc4)]; exact yb) | (rw [listJ_one p i j hmay hc5]; exact yb) | (rw [listJ_many p i j kq hmay hc5 yo]; exact yb))⟩
    ·
     have hmay : mayR p i j = true := by simpa using hc4
     refine W_skip (w2 (fun w0 => ?_))
     refine zM ?_
     refine yL (ov_convn rfl rfl Tryz.underlying3 Tryz.underlying26 ya) ?_
     refine zM ?_
     refine yL (ov_convn rfl rfl Tryz.underlying3 Tryz.underlying26 ya) ?_
     refine yL (ov_build (fs := fs54) (ds := [⟨0, _⟩, ⟨1, _⟩]) rfl rfl bl55 ⟨yn, yf, ⟨yn, yf, trivial⟩⟩ rfl) ?_
     refine LO_l rfl (by decide : 6 < 67) (ol_alloc (t := moveT) rfl tok55 yf (fun b2 => ?_))
     refine LO_l rfl trivial (ol_sw0 rfl rfl rfl rfl yf tok55 ?_)
     refine LO_nil (W_seq (w1 ((yM ?_))))
     refine yR (ov_fieldAddr rfl rfl fa31_1 rfl) ?_
     refine yR (ov_indexAddr rfl rfl rfl Tryz.underlying22 rfl Tryz.sizeOf5 ya ya) ?_
     refine yR (ov_load rfl rfl ye ⟨⟨trivial, yn⟩, (tn ya ya)⟩ rfl rfl tok5) ?_
     refine yP (yV rfl rfl rfl Tryz.call84 xany) ?_
     refine yR (ov_neq rfl rfl rfl) ?_
     refine yM ?_
     refine yG (fun hg => OpX.v (ov_fieldAddr rfl rfl fa31_4 rfl)) ?_
     refine yG (fun hg => OpX.v (ov_load rfl (look_gv rfl (bq hg)) ye ⟨trivial, yn⟩ rfl rfl tok5)) ?_
     refine RO_g1 rfl rfl rfl rfl rfl yd (fun hg => by have hgx := hg; (try simp only [yS] at hgx); exact OpX.v (ov_move rfl rfl)) ?_
     refine RO_g1 rfl rfl rfl rfl rfl yd (fun hg => by have hgx := hg; (try simp only [yS] at hgx); exact yV rfl rfl (looks_cons (look_gv rfl (bq hg)) (looks_cons (look_gv rfl (bq hg)) looks_nil)) Tryz.call133 (by apply c_ref13_Rank <;> exact yz)) ?_
     refine yG (fun hg => OpX.v (ov_neq rfl (look_gv rfl (bq hg)) rfl)) ?_
     refine yR (ov_or rfl rfl rfl rfl (fun h => bq h)) ?_
     refine RO_nil (W_cond rfl (fun hc5 => ?_) (fun hc5 => ?_))
     ·
      refine w2 (fun w0 => ?_)
      refine zM ?_
      refine yL (ov_load rfl rfl ye trivial rfl rfl tok55) ?_
      refine LO_l rfl (by decide : 46 < 67) (ol_buildSlice (t := moveT) (xs := [_]) rfl rfl rfl Tryz.underlying48 tok55 xaey yd yd yd (fun v1 => ?_))
      refine LO_l rfl (by decide : 47 < 67) (ol_ap2 (t := moveT) rfl rfl rfl xaby ap48 xafy xafy (fun v2 => ?_))
      refine zA ?_
      refine LO_nil (W_exit (W_reg (yM ?_)))
      refine yR (ov_add rfl rfl rfl ya) ?_
      refine yA_ ?_
      refine RO_nil ?_
      exact ⟨(j + 1, _), xaly, xaly, ⟨rfl, rfl, rfl, rfl, trivial⟩, (by first | (rw [listJ_no p i j (by simpa using hc4)]; exact yb) | (rw [listJ_one p i j hmay hc5]; exact yb) | (rw [listJ_many p i j kq hmay hc5 yo]; exact yb))⟩
     ·
      refine W_skip (w2 (fun w0 => ?_))
      refine yL (ov_fieldAddr rfl rfl fa31_0 rfl) ?_
      refine yL (ov_load rfl rfl ye ⟨trivial, yn⟩ rfl rfl tok5) ?_
      refine LO_l rfl (by decide : 50 < 67) (ol_call (v0 := []) (v2 := []) rfl rfl rfl Tryz.call134 (Con.mono (by apply c_ref07_Promotes <;> exact yz) ?_))
      rintro vp _ rfl
      refine zA ?_
      refine LO_nil (w1 ((yA_ ?_)))
      refine RO_nil (W_block (W_loop (σ := Nat × Value) (fun s => s.1 ≤ (promP (vr p)).length) (fun s => [(1, ptrv b1 posT []), (4, .int .i64 (i : Int)), (5, .int .i64 (j : Int)), (6, ptrv b2 moveT []), (8, .int .i64 (s.1 : Int)), (7, vp), (3, s.2)]) (fun s => .row vp 5 u8 (promP (vr p)) :: .box b2 55 moveT (mAt ((i : Int), (j : Int), (0 : Int), (0 : Int), false, ()) (promP (vr p)) s.1) :: .row s.2 55 moveT (listK p i j s.1) :: .box b1 31 posT p :: M) (fun s => (promP (vr p)).length - s.1) ((0, v6)) (by simp) ⟨rfl, rfl, rfl, rfl, rfl, rfl, rfl, trivial⟩ (by show List.Sublist (_ :: _ :: Fact.row v6 55 moveT (listK p i j 0) :: _) _; rw [listK_0]; exact yb) ?_))
      rintro ⟨kq, v7⟩ hK
      simp only at hK
      refine W_seq (w1 ((yM ?_)))
      refine yM ?_
      refine yR (ov_len rfl rfl xaby Tryz.underlying43) ?_
      refine yR (ov_lss rfl rfl rfl) ?_
      refine RO_nil (W_cond rfl (fun hc6 => ?_) (fun hc6 => ?_))
      ·
       try simp only [yS] at hc6
       have hkr := prom_rng (vr p) kq
       have hkl := listK_len p i j kq yo yo
       have hwm := wf_move (mAt ((i : Int), (j : Int), (0 : Int), (0 : Int), false, ()) (promP (vr p)) kq)
       have hkx : @LE.le Int _ 0 ((promP (vr p)).getD ((kq : Nat) : Int).toNat (zero u8)) ∧ @LE.le Int _ ((promP (vr p)).getD ((kq : Nat) : Int).toNat (zero u8)) 255 := hkr
       refine W_skip (W_seq (W_block (w2 (fun w0 => ?_))))
       refine zM ?_
       refine zM ?_
       refine yL (ov_indexAddr_sl (t := u8) rfl rfl xaby rfl Tryz.underlying43 Tryz.sizeOf5 ya ya) ?_
       refine yL (ov_load_e (t := u8) (p := []) rfl rfl xaby ya trivial rfl rfl tok5) ?_
       refine yL (ov_fieldAddr rfl rfl fa55_2 rfl) ?_
       refine LO_l rfl trivial (ol_st1 rfl rfl rfl ⟨trivial, yn⟩ rfl yf tok5 ?_)
       refine LO_nil (W_regl (fun w0 => ?_))
       refine zM ?_
       refine yL (ov_load rfl rfl ye trivial rfl rfl tok55) ?_
       refine LO_l rfl (by decide : 64 < 67) (ol_buildSlice (t := moveT) (xs := [_]) rfl rfl rfl Tryz.underlying48 tok55 xaey yd yd yd (fun v3 => ?_))
       refine LO_l rfl (by decide : 65 < 67) (ol_ap3 (t := moveT) rfl rfl rfl xaby ap48 xafy xafy (fun v4 => ?_))
       refine zA ?_
       refine LO_nil (W_reg (yM ?_))
       refine yR (ov_add rfl rfl rfl ya) ?_
       refine yA_ ?_
       refine RO_nil ?_
       exact ⟨(kq + 1, _), xaly, xaly, ⟨rfl, rfl, rfl, rfl, rfl, rfl, rfl, trivial⟩, (by rw [listK_next p i j kq yo]; exact yb)⟩
      ·
       try simp only [yS] at hc6
       refine W_exit (W_reg (yM ?_))
       refine yR (ov_add rfl rfl rfl ya) ?_
       refine yA_ ?_
       refine RO_nil ?_
       exact ⟨(j + 1, _), xaly, xaly, ⟨rfl, rfl, rfl, rfl, trivial⟩, (by first | (rw [listJ_no p i j (by simpa using hc4)]; exact yb) | (rw [listJ_one p i j hmay hc5]; exact yb) | (rw [listJ_many p i j kq hmay hc5 yo]; exact yb))⟩
   ·
    try simp only [yS] at hc3
    refine W_exit (W_reg (yM ?_))
    refine yR (ov_add rfl rfl rfl ya) ?_
    refine yA_ ?_
    refine RO_nil ?_
    exact ⟨(i + 1, _), xaly, xaly, ⟨rfl, rfl, rfl, trivial⟩, (by rw [← listJ_64 p i j yo]; exact yb)⟩
  ·
   try simp only [yS] at hc2
   refine W_exit (w1 ((yM ?_)))
   refine yA_ ?_
   refine RO_nil (W_ret ⟨trivial, _, .row _ 55 moveT (list13 p) :: M, (ResV_tmp1 rfl rfl rfl), ?_, rfl⟩)
   first | (rw [list13_n hc1]; exact yb) | (rw [list13_y hc1, show 64 = i by omega]; exact yb)
end Go.Kw
set_option linter.unusedVariables false
namespace Go.Kw
open Go.Proofs


def promotesR (v kd : Int) : Bool := decide (kd ∈ (show List Int from promP v))
theorem promR_yes {v kd : Int} {i : Nat} (hi : i < (promP v).length) (h : (promP v).getD ((i : Nat) : Int).toNat (zero u8) = kd) : promotesR v kd = true := by
  have key : ∀ l : List Int, i < l.length → l.getD i 0 = kd → kd ∈ l := fun l hl e => by
    rw [List.getD_eq_getElem?_getD, List.getElem?_eq_getElem hl] at e
    rw [← e]; exact List.getElem_mem hl
  exact decide_eq_true (key _ hi h)
theorem promR_no {v kd : Int} {i : Nat} (hi : (promP v).length ≤ i) (h : ∀ j, j < i → ¬ (promP v).getD ((j : Nat) : Int).toNat (zero u8) = kd) : promotesR v kd = false := by
  have key : ∀ l : List Int, l.length ≤ i → (∀ j, j < i → ¬ l.getD j 0 = kd) → ¬ kd ∈ l := fun l hl e hm => by
    obtain ⟨j, hj, hx⟩ := List.mem_iff_getElem.1 hm
    refine e j yo ?_
    rw [List.getD_eq_getElem?_getD, List.getElem?_eq_getElem hj]; exact hx
  exact decide_eq_false (key _ hi h)
def chR (p : Pos) (m : Mv) : Bool := (((((((!thereR p || mC m) || !decide (mD m = 0)) || decide (mF m < 0)) || decide (63 < mF m)) || decide (mT m < 0)) || decide (63 < mT m)) || !mayR p (mF m) (mT m))
def isR (p : Pos) (m : Mv) : Bool := if chR p m = true then false else if oneR p (mF m) (mT m) = true then decide (mP m = 0) else promotesR (vr p) (mP m)
theorem there_tu2 {p : Pos} (h : thereR p = true) : tu p ≤ 1 := there_tu (by rw [h]; rfl)
theorem isR_facts {p : Pos} {m : Mv} (h : chR p m = false) : 0 ≤ mF m ∧ mF m < 64 ∧ 0 ≤ mT m ∧ mT m < 64 ∧ tu p ≤ 1 := by
  unfold chR at h
  simp only [Bool.or_eq_false_iff, decide_eq_false_iff_not, Int.not_lt] at h
  obtain ⟨⟨⟨⟨⟨⟨⟨h1, -⟩, -⟩, h2⟩, h3⟩, h4⟩, h5⟩, -⟩ := h
  exact ⟨h2, by omega, h4, by omega, there_tu h1⟩
theorem isR_rng {p : Pos} {m : Mv} (h : isR p m = true) : 0 ≤ mF m ∧ mF m < 64 ∧ 0 ≤ mT m ∧ mT m < 64 ∧ tu p ≤ 1 := by
  unfold isR at h
  cases e : chR p m with
  | true => rw [if_pos e] at h; cases h
  | false => exact isR_facts e
def takenR (p : Pos) (m : Mv) : Int := if (!isR p m) = true then -1 else if (!emptyR p (mT m)) = true then mT m
  else if (decide (kind (pb p (mF m)) = 1) && !decide (mF m % 8 = mT m % 8)) = true then mT m - upR (tu p) else -1
def goR (s : Int) : Int × Int := if decide (s = 0) = true then (6, 5) else (2, 3)
theorem goR_rng (s : Int) : (0 ≤ (goR s).1 ∧ (goR s).1 ≤ 7) ∧ 0 ≤ (goR s).2 ∧ (goR s).2 ≤ 7 := by
  unfold goR; split <;> decide
def withinR (s a b : Int) : Bool := (decide (a ≤ s) && decide (s ≤ b)) || (decide (b ≤ s) && decide (s ≤ a))
def safeR (q : Pos) (s : Int) : Bool := if (decide (vr q = 3) && nearKing q (tu q) s 64) = true then true else decide (refBy q s (1 - tu q) = 0#64)
theorem safe_yes {q : Pos} {s : Int} {i : Nat} (hi : i < 64) (h2 : (isAt q i (1 - tu q) 6 && beside i s) = true) (h1 : (decide (((i : Nat) : Int) < 64) && decide (vr q = 3)) = true) : safeR q s = true :=
  if_pos (by rw [nearKing_t hi h2, (Bool.and_eq_true_iff.1 h1).2]; rfl)
theorem safe_no {q : Pos} {s : Int} {i : Nat} (hi : i ≤ 64) (hN : nearKing q (tu q) s i = false) (h1 : (decide (((i : Nat) : Int) < 64) && decide (vr q = 3)) = false) : safeR q s = decide (refBy q s (1 - tu q) = 0#64) := by
  refine if_neg fun h => ?_
  obtain ⟨a, b⟩ := Bool.and_eq_true_iff.1 h
  rw [a, Bool.and_true] at h1
  have := of_decide_eq_false h1
  rw [show i = 64 by omega, b] at hN; cases hN
def castF (p : Pos) (side : Int) : Int := ((rk p).getD (tu p).toNat (zero (.ar 2 i8))).getD side.toNat (zero i8)
theorem castF_rng {p : Pos} (hp : POK p) (side : Int) : -128 ≤ castF p side ∧ castF p side ≤ 127 := getD2 (n := 2) hp.rk yd yd _ _
def takeQ (p : Pos) (side : Int) : Pos := putB (putB p (find p (tu p) 6) 0) (56 * tu p + castF p side) 0
def badAt (p : Pos) (side s : Int) : Bool :=
  ((withinR s (find p (tu p) 6) (56 * tu p + (goR side).1) || withinR s (56 * tu p + castF p side) (56 * tu p + (goR side).2)) && !decide (kind (pb (takeQ p side) s) = 0))
  || (withinR s (find p (tu p) 6) (56 * tu p + (goR side).1) && !safeR (takeQ p side) s)
def badR (p : Pos) (side : Int) (i : Nat) : Bool := badAt p side (56 * tu p + (i : Int))
def okTo (f : Nat → Bool) : Nat → Bool
  | 0 => true
  | n + 1 => okTo f n && !f n
theorem okTo_next {f : Nat → Bool} {n : Nat} (h : okTo f n = true) (h2 : f n = false) : okTo f (n + 1) = true := by rw [okTo, h, h2]; rfl
theorem okTo_no {f : Nat → Bool} {i : Nat} (h2 : f i = true) : ∀ {n}, i < n → okTo f n = false
  | n + 1, h => by
    rw [okTo]
    rcases Nat.lt_or_ge i n with h' | h'
    · rw [okTo_no h2 h']; rfl
    · rw [show n = i by omega, h2]; cases okTo f i <;> rfl
def mayC1 (p : Pos) (side : Int) : Bool := ((decide (find p (tu p) 6 < 56 * tu p) || decide (56 * tu p + 7 < find p (tu p) 6)) || decide (castF p side < 0)) || decide (7 < castF p side)
def mayC2 (p : Pos) (side : Int) : Bool := (!isAt p (56 * tu p + castF p side) (tu p) 4 || (decide (side = 0) && decide (56 * tu p + castF p side < find p (tu p) 6))) || (decide (side = 1) && decide (find p (tu p) 6 < 56 * tu p + castF p side))
def mayC (p : Pos) (side : Int) : Int × Int × Bool := if (decide (1 < tu p) || !castlesP (vr p)) = true then (0, 0, false) else if mayC1 p side = true then (0, 0, false) else if mayC2 p side = true then (0, 0, false)
  else if okTo (badR p side) 8 = true then (find p (tu p) 6, 56 * tu p + castF p side, true) else (0, 0, false)
theorem cast_rng {p : Pos} {side : Int} (h : mayC1 p side = false) : 56 * tu p ≤ find p (tu p) 6 ∧ find p (tu p) 6 ≤ 56 * tu p + 7 ∧ 0 ≤ castF p side ∧ castF p side ≤ 7 := by
  unfold mayC1 at h
  simp only [Bool.or_eq_false_iff, decide_eq_false_iff_not, Int.not_lt] at h
  exact ⟨h.1.1.1, h.1.1.2, h.1.2, h.2⟩
def T3 (x : Int × Int × Bool) : Value := .tuple #[.int .i64 x.1, .int .i64 x.2.1, .bool x.2.2]
theorem mayC_a {p : Pos} {side : Int} (h : (decide (1 < tu p) || !castlesP (vr p)) = true) : Value.tuple #[.int .i64 0, .int .i64 0, .bool false] = T3 (mayC p side) := by rw [show mayC p side = _ from if_pos h]; rfl
theorem mayC_b {p : Pos} {side : Int} (h : (decide (1 < tu p) || !castlesP (vr p)) = false) (h2 : mayC1 p side = true) : Value.tuple #[.int .i64 0, .int .i64 0, .bool false] = T3 (mayC p side) := by rw [show mayC p side = _ from (if_neg (Bool.eq_false_iff.1 h)).trans (if_pos h2)]; rfl
theorem mayC_c {p : Pos} {side : Int} (h : (decide (1 < tu p) || !castlesP (vr p)) = false) (h2 : mayC1 p side = false) (h3 : mayC2 p side = true) : Value.tuple #[.int .i64 0, .int .i64 0, .bool false] = T3 (mayC p side) := by rw [show mayC p side = _ from (if_neg (Bool.eq_false_iff.1 h)).trans ((if_neg (Bool.eq_false_iff.1 h2)).trans (if_pos h3))]; rfl
theorem mayC_d {p : Pos} {side : Int} (h : (decide (1 < tu p) || !castlesP (vr p)) = false) (h2 : mayC1 p side = false) (h3 : mayC2 p side = false) {i : Nat} (hi : i < 8) (h4 : badR p side i = true) : Value.tuple #[.int .i64 0, .int .i64 0, .bool false] = T3 (mayC p side) := by
  rw [show mayC p side = _ from (if_neg (Bool.eq_false_iff.1 h)).trans ((if_neg (Bool.eq_false_iff.1 h2)).trans ((if_neg (Bool.eq_false_iff.1 h3)).trans (if_neg (by rw [okTo_no h4 hi]; simp))))]; rfl
theorem mayC_e {p : Pos} {side : Int} (h : (decide (1 < tu p) || !castlesP (vr p)) = false) (h2 : mayC1 p side = false) (h3 : mayC2 p side = false) {i : Nat} (hi : i = 8) (h4 : okTo (badR p side) i = true) : Value.tuple #[.int .i64 (find p (tu p) 6), .int .i64 (56 * tu p + castF p side), .bool true] = T3 (mayC p side) := by
  subst hi
  rw [show mayC p side = _ from (if_neg (Bool.eq_false_iff.1 h)).trans ((if_neg (Bool.eq_false_iff.1 h2)).trans ((if_neg (Bool.eq_false_iff.1 h3)).trans (if_pos h4)))]; rfl
theorem mayC_rng {p : Pos} (hp : POK p) (side : Int) : (0 ≤ (mayC p side).1 ∧ (mayC p side).1 < 64) ∧ 0 ≤ (mayC p side).2.1 ∧ (mayC p side).2.1 < 64 := by
  unfold mayC
  split
  · exact ⟨⟨by decide, by decide⟩, by decide, by decide⟩
  · rename_i h1
    have ht : tu p ≤ 1 := by
      have := Bool.eq_false_iff.2 h1
      exact Int.not_lt.1 (of_decide_eq_false (Bool.or_eq_false_iff.1 this).1)
    split
    · exact ⟨⟨by decide, by decide⟩, by decide, by decide⟩
    · rename_i h2
      have := cast_rng (Bool.eq_false_iff.2 h2)
      have hk := find_rng p (tu p) 6
      split
      · exact ⟨⟨by decide, by decide⟩, by decide, by decide⟩
      · split
        · refine ⟨⟨?_, hk.2⟩, ?_, ?_⟩
          · show 0 ≤ find p (tu p) 6
            have h0 := hp.tu
            omega
          · show 0 ≤ 56 * tu p + castF p side
            have h0 := hp.tu
            omega
          · show 56 * tu p + castF p side < 64; omega
        · exact ⟨⟨by decide, by decide⟩, by decide, by decide⟩
def castM (x : Int × Int × Bool) : Mv := (x.1, x.2.1, (0 : Int), (0 : Int), true, ())
def outR (p : Pos) : Nat → List Mv
  | 0 => []
  | n + 1 => outR p n ++ (if (mayC p (1 - (n : Int))).2.2 = true then [castM (mayC p (1 - (n : Int)))] else [])
def list14 (p : Pos) : List Mv := outR p 2
theorem outR_yes {p : Pos} {n : Nat} (h : (mayC p (1 - (n : Int))).2.2 = true) : outR p (n + 1) = outR p n ++ [castM (mayC p (1 - (n : Int)))] := by rw [outR, if_pos h]
theorem outR_no {p : Pos} {n : Nat} (h : (mayC p (1 - (n : Int))).2.2 = false) : outR p (n + 1) = outR p n := by rw [outR, if_neg (by simp [h])]; exact List.append_nil _
theorem outR_len (p : Pos) : ∀ n, (outR p n).length ≤ n
  | 0 => Nat.le_refl _
  | n + 1 => by
    have h := outR_len p n
    rw [outR]
    split
    · show (List.append _ _).length ≤ _
      simp only [List.append_eq, List.length_append, List.length_cons, List.length_nil]; omega
    · show (List.append _ _).length ≤ _
      simp only [List.append_eq, List.length_append, List.length_nil]; omega
def sideR (p : Pos) (m : Mv) : Int :=
  if (((((((((decide (1 < tu p) || !mC m) || decide (mF m = mT m)) || decide (mF m < 0)) || decide (63 < mF m)) || decide (mT m < 0)) || decide (63 < mT m)) || !decide (mF m / 8 = 7 * tu p)) || !decide (mT m / 8 = 7 * tu p))) = true then -1
  else if decide (mF m < mT m) = true then 0 else 1

theorem c_ref13_promotes (v kd : Int) (M : List Fact) : Pure Tryz.prog 192 [.int .u8 v, .int .u8 kd] M (.bool (promotesR v kd)) := by
 have hpl := prom_len v
 refine pure_of_W (n := 21) Tryz.func192 rfl rfl yn ?_
 refine w1 ((yA_ ?_))
 refine RO_nil (w2 (fun w0 => ?_))
 refine zM ?_
 refine LO_l rfl (by decide : 8 < 21) (ol_call (v0 := []) (v2 := []) rfl rfl rfl Tryz.call134 (Con.mono (by apply c_ref07_Promotes <;> exact yz) ?_))
 rintro vp _ rfl
 refine zA ?_
 refine LO_nil (W_seq (w1 ((yA_ ?_))))
 refine RO_nil (W_block (W_loop (σ := Nat) (fun s => s ≤ (promP v).length ∧ ∀ j, j < s → ¬ (promP v).getD ((j : Nat) : Int).toNat (zero u8) = kd) (fun s => [(1, .int .u8 kd), (5, vp), (6, .int .i64 (s : Int))]) (fun s => .row vp 5 u8 (promP v) :: M) (fun s => (promP v).length - s) (0) ⟨by omega, fun j hj => absurd hj yo⟩ ⟨rfl, rfl, rfl, trivial⟩ yb ?_))
 rintro i ⟨hI, hN⟩
 refine W_seq (w1 ((yM ?_)))
 refine yM ?_
 refine yR (ov_len rfl rfl xaby Tryz.underlying43) ?_
 refine yR (ov_lss rfl rfl rfl) ?_
 refine RO_nil (W_cond rfl (fun hc1 => ?_) (fun hc1 => ?_))
 ·
  try simp only [yS] at hc1
  refine W_skip (W_seq (W_block (w1 ((yM ?_)))))
  refine yM ?_
  refine yR (ov_indexAddr_sl (t := u8) rfl rfl xaby rfl Tryz.underlying43 Tryz.sizeOf5 ya ya) ?_
  refine yR (ov_load_e (t := u8) (p := []) rfl rfl xaby ya trivial rfl rfl tok5) ?_
  refine yM ?_
  refine yR (ov_eql rfl rfl rfl) ?_
  refine RO_nil (W_cond rfl (fun hc2 => ?_) (fun hc2 => ?_))
  ·
   try simp only [yS] at hc2
   refine w1 ((yA_ ?_))
   refine RO_nil (W_ret ⟨trivial, yb, (ResV_tmp1 rfl rfl ?_)⟩)
   first | exact val_bool (promR_yes (i := i) yo hc2).symm | exact val_bool (promR_no (i := i) yo hN).symm
  ·
   try simp only [yS] at hc2
   refine W_skip (W_reg (yM ?_))
   refine yR (ov_add rfl rfl rfl ya) ?_
   refine yA_ ?_
   refine RO_nil ?_
   exact ⟨i + 1, yo, ⟨by omega, fun j hj => by rcases Nat.lt_or_ge j i with h | h; (· exact hN j h); (· rw [show j = i by omega]; exact hc2)⟩, ⟨rfl, rfl, rfl, trivial⟩, yb⟩
 ·
  try simp only [yS] at hc1
  refine W_exit (w1 ((yA_ ?_)))
  refine RO_nil (W_ret ⟨trivial, yb, (ResV_tmp1 rfl rfl ?_)⟩)
  first | exact val_bool (promR_yes (i := i) yo hc2).symm | exact val_bool (promR_no (i := i) yo hN).symm

theorem c_ref13_Is (p : Pos) (hp : POK p) (m : Mv) (hm : MOK m) (M : List Fact) : Pure Tryz.prog 154 [enc posT p, enc moveT m] M (.bool (isR p m)) := by
 obtain ⟨hb, hpw, hvr, htu, hpg, hvr0, htu0⟩ := hp.head
 have hmF := hm.f
 have hmT := hm.t
 have hmP := hm.p
 have hmD := hm.d
 have hmF0 := hm.f
 have hmT0 := hm.t
 have hmP0 := hm.p
 have hmD0 := hm.d
 simp only [mF] at hmF0
 simp only [mT] at hmT0
 simp only [mP] at hmP0
 simp only [mD] at hmD0
 have hmw := wf_move m
 refine pure_of_W (n := 69) Tryz.func154 rfl rfl yn ?_
 refine w2 (fun w0 => ?_)
 refine LO_l rfl (by decide : 2 < 69) (ol_box (t := posT) rfl rfl rfl yf (fun b1 => ?_))
 refine LO_l rfl (by decide : 3 < 69) (ol_box (t := moveT) rfl rfl rfl yf (fun b2 => ?_))
 refine zA ?_
 refine LO_nil (W_seq (W_regd mixed yk ?_))
 refine yR (ov_fieldAddr rfl rfl fa55_0 rfl) ?_
 refine yR (ov_load rfl rfl ye ⟨trivial, yn⟩ rfl rfl tok26) ?_
 refine yR (ov_convn rfl rfl Tryz.underlying26 Tryz.underlying3 ya) ?_
 refine yR (ov_fieldAddr rfl rfl fa55_1 rfl) ?_
 refine yR (ov_load rfl rfl ye ⟨trivial, yn⟩ rfl rfl tok26) ?_
 refine yR (ov_convn rfl rfl Tryz.underlying26 Tryz.underlying3 ya) ?_
 refine yA_ ?_
 refine yA_ ?_
 refine RO_nil (W_seq (w1 ((yR (ov_load rfl rfl ye trivial rfl rfl tok31) ?_))))
 refine yP (yV rfl rfl rfl Tryz.call23 (by apply c_ref13_There <;> exact yz)) ?_
 refine yR (ov_not rfl rfl) ?_
 refine yM ?_
 refine yG (fun hg => OpX.v (ov_fieldAddr rfl rfl fa55_4 rfl)) ?_
 refine yG (fun hg => OpX.v (ov_load rfl (look_gv rfl (bq hg)) ye ⟨trivial, yn⟩ rfl rfl tok4)) ?_
 refine yR (ov_or rfl rfl rfl rfl (fun h => bq h)) ?_
 refine yM ?_
 refine yG (fun hg => OpX.v (ov_fieldAddr rfl rfl fa55_3 rfl)) ?_
 refine yG (fun hg => OpX.v (ov_load rfl (look_gv rfl (bq hg)) ye ⟨trivial, yn⟩ rfl rfl tok5)) ?_
 refine yG (fun hg => OpX.v (ov_neq rfl (look_gv rfl (bq hg)) rfl)) ?_
 refine yR (ov_or rfl rfl rfl rfl (fun h => bq h)) ?_
 refine yM ?_
 refine gM ?_
 refine yG (fun hg => OpX.v (ov_lss rfl (look_gv rfl (bq hg)) rfl)) ?_
 refine yR (ov_or rfl rfl rfl rfl (fun h => bq h)) ?_
 refine yM ?_
 refine gM ?_
 refine yG (fun hg => OpX.v (ov_gtr rfl (look_gv rfl (bq hg)) rfl)) ?_
 refine yR (ov_or rfl rfl rfl rfl (fun h => bq h)) ?_
 refine yM ?_
 refine gM ?_
 refine yG (fun hg => OpX.v (ov_lss rfl (look_gv rfl (bq hg)) rfl)) ?_
 refine yR (ov_or rfl rfl rfl rfl (fun h => bq h)) ?_
 refine yM ?_
 refine gM ?_
 refine yG (fun hg => OpX.v (ov_gtr rfl (look_gv rfl (bq hg)) rfl)) ?_
 refine yR (ov_or rfl rfl rfl rfl (fun h => bq h)) ?_
 refine yM ?_
 refine yG (fun hg => OpX.v (ov_load rfl rfl ye trivial rfl rfl tok31)) ?_
 refine gM ?_
 refine gM ?_
 refine RO_g1 rfl rfl rfl rfl rfl yd (fun hg => by have hgx := hg; (try simp only [yS] at hgx); exact yV rfl rfl (looks_cons (look_gv rfl (bq hg)) (looks_cons (look_gv rfl (bq hg)) (looks_cons (look_gv rfl (bq hg)) looks_nil))) Tryz.call132 (c_ref13_May p hp (mF m) (mT m) _ (there_tu2 (by first | exact hgx.1.1.1.1.1.1 | exact (hgx : _ ∧ _).1.1.1.1.1.1)) (by first | exact hgx.1.1.1.2) (by have : mF m ≤ 63 := hgx.1.1.2; omega) hgx.1.2 (by have : mT m ≤ 63 := hgx.2; omega))) ?_
 refine yG (fun hg => OpX.v (ov_not rfl (look_gv rfl (bq hg)))) ?_
 refine yR (ov_or rfl rfl rfl rfl (fun h => bq h)) ?_
 refine RO_nil (W_cond rfl (fun hc1 => ?_) (fun hc1 => ?_))
 ·
  refine w1 ((yA_ ?_))
  refine RO_nil (W_ret ⟨trivial, yb, (ResV_tmp1 rfl rfl ?_)⟩)
  exact xbry
 ·
  have hir := isR_facts hc1
  have hF1 := hir.1
  have hF2 := hir.2.1
  have hT1 := hir.2.2.1
  have hT2 := hir.2.2.2.1
  have ht := hir.2.2.2.2
  simp only [mF, mT, tu] at hF1 hF2 hT1 hT2 ht
  refine W_skip (W_seq (w1 ((yM ?_))))
  refine yR (ov_fieldAddr rfl rfl fa31_1 rfl) ?_
  refine yR (ov_indexAddr rfl rfl rfl Tryz.underlying22 rfl Tryz.sizeOf5 ya ya) ?_
  refine yR (ov_load rfl rfl ye ⟨⟨trivial, yn⟩, (tn ya ya)⟩ rfl rfl tok5) ?_
  refine yP (yV rfl rfl rfl Tryz.call84 xany) ?_
  refine yR (ov_neq rfl rfl rfl) ?_
  refine yM ?_
  refine yG (fun hg => OpX.v (ov_fieldAddr rfl rfl fa31_4 rfl)) ?_
  refine yG (fun hg => OpX.v (ov_load rfl (look_gv rfl (bq hg)) ye ⟨trivial, yn⟩ rfl rfl tok5)) ?_
  refine gM ?_
  refine yG (fun hg => yV rfl rfl (looks_cons (look_gv rfl (bq hg)) (looks_cons (look_gv rfl (bq hg)) looks_nil)) Tryz.call133 (by apply c_ref13_Rank <;> exact yz)) ?_
  refine yG (fun hg => OpX.v (ov_neq rfl (look_gv rfl (bq hg)) rfl)) ?_
  refine yR (ov_or rfl rfl rfl rfl (fun h => bq h)) ?_
  refine RO_nil (W_cond rfl (fun hc2 => ?_) (fun hc2 => ?_))
  ·
   refine w1 ((yR (ov_fieldAddr rfl rfl fa55_2 rfl) ?_))
   refine yR (ov_load rfl rfl ye ⟨trivial, yn⟩ rfl rfl tok5) ?_
   refine yR (ov_eql rfl rfl rfl) ?_
   refine yA_ ?_
   refine RO_nil (W_ret ⟨trivial, yb, (ResV_tmp1 rfl rfl ?_)⟩)
   exact xbry
  ·
   refine W_skip (w1 ((yR (ov_fieldAddr rfl rfl fa31_0 rfl) ?_)))
   refine yR (ov_load rfl rfl ye ⟨trivial, yn⟩ rfl rfl tok5) ?_
   refine yR (ov_fieldAddr rfl rfl fa55_2 rfl) ?_
   refine yR (ov_load rfl rfl ye ⟨trivial, yn⟩ rfl rfl tok5) ?_
   refine yP (yV rfl rfl rfl Tryz.call192 (by apply c_ref13_promotes <;> exact yz)) ?_
   refine yA_ ?_
   refine RO_nil (W_ret ⟨trivial, yb, (ResV_tmp1 rfl rfl ?_)⟩)
   exact xbry

theorem c_ref13_Taken (p : Pos) (hp : POK p) (m : Mv) (hm : MOK m) (M : List Fact) : Pure Tryz.prog 98 [enc posT p, enc moveT m] M (.int .i64 (takenR p m)) := by
 obtain ⟨hb, hpw, hvr, htu, hpg, hvr0, htu0⟩ := hp.head
 have hmF := hm.f
 have hmT := hm.t
 have hmP := hm.p
 have hmD := hm.d
 have hmF0 := hm.f
 have hmT0 := hm.t
 have hmP0 := hm.p
 have hmD0 := hm.d
 simp only [mF] at hmF0
 simp only [mT] at hmT0
 simp only [mP] at hmP0
 simp only [mD] at hmD0
 have hmw := wf_move m
 have hup := upR_val (tu p)
 have hup0 : upR p.2.2.2.2.1 = 8 ∨ upR p.2.2.2.2.1 = -8 := hup
 refine pure_of_W (n := 39) Tryz.func98 rfl rfl yn ?_
 refine w2 (fun w0 => ?_)
 refine LO_l rfl (by decide : 2 < 39) (ol_box (t := posT) rfl rfl rfl yf (fun b1 => ?_))
 refine LO_l rfl (by decide : 3 < 39) (ol_box (t := moveT) rfl rfl rfl yf (fun b2 => ?_))
 refine zA ?_
 refine LO_nil (W_seq (w1 ((yR (ov_load rfl rfl ye trivial rfl rfl tok31) ?_))))
 refine yR (ov_load rfl rfl ye trivial rfl rfl tok55) ?_
 refine yP (yV rfl rfl rfl Tryz.call154 (by apply c_ref13_Is <;> exact yz)) ?_
 refine yR (ov_not rfl rfl) ?_
 refine RO_nil (W_cond rfl (fun hc1 => ?_) (fun hc1 => ?_))
 ·
  refine w1 ((yA_ ?_))
  refine RO_nil (W_ret ⟨trivial, yb, (ResV_tmp1 rfl rfl ?_)⟩)
  exact xbsy
 ·
  have hir := isR_rng (by simpa using hc1)
  have hF1 := hir.1
  have hF2 := hir.2.1
  have hT1 := hir.2.2.1
  have hT2 := hir.2.2.2.1
  have ht := hir.2.2.2.2
  simp only [mF, mT, tu] at hF1 hF2 hT1 hT2 ht
  refine W_skip (w1 ((yR (ov_fieldAddr rfl rfl fa55_1 rfl) ?_)))
  refine yR (ov_load rfl rfl ye ⟨trivial, yn⟩ rfl rfl tok26) ?_
  refine yR (ov_convn rfl rfl Tryz.underlying26 Tryz.underlying3 ya) ?_
  refine yA_ ?_
  refine RO_nil (W_seq (w1 ((yR (ov_load rfl rfl ye trivial rfl rfl tok31) ?_))))
  refine yM ?_
  refine yP (yV rfl rfl rfl Tryz.call155 (by apply c_ref13_Empty <;> exact yz)) ?_
  refine yR (ov_not rfl rfl) ?_
  refine RO_nil (W_cond rfl (fun hc2 => ?_) (fun hc2 => ?_))
  ·
   refine w1 ((yM ?_))
   refine yA_ ?_
   refine RO_nil (W_ret ⟨trivial, yb, (ResV_tmp1 rfl rfl ?_)⟩)
   exact xbsy
  ·
   refine W_skip (W_seq (w1 ((yR (ov_fieldAddr rfl rfl fa55_0 rfl) ?_))))
   refine yR (ov_load rfl rfl ye ⟨trivial, yn⟩ rfl rfl tok26) ?_
   refine yR (ov_fieldAddr rfl rfl fa31_1 rfl) ?_
   refine yR (ov_indexAddr rfl rfl rfl Tryz.underlying22 rfl Tryz.sizeOf5 ya ya) ?_
   refine yR (ov_load rfl rfl ye ⟨⟨trivial, yn⟩, (tn ya ya)⟩ rfl rfl tok5) ?_
   refine yP (yV rfl rfl rfl Tryz.call84 xany) ?_
   refine yR (ov_eql rfl rfl rfl) ?_
   refine yM ?_
   refine yG (fun hg => OpX.v (ov_fieldAddr rfl rfl fa55_0 rfl)) ?_
   refine yG (fun hg => OpX.v (ov_load rfl (look_gv rfl (bq hg)) ye ⟨trivial, yn⟩ rfl rfl tok26)) ?_
   refine yG (fun hg => OpX.v (ov_rem_pos rfl (look_gv rfl (bq hg)) rfl ya ya)) ?_
   refine yG (fun hg => OpX.v (ov_fieldAddr rfl rfl fa55_1 rfl)) ?_
   refine yG (fun hg => OpX.v (ov_load rfl (look_gv rfl (bq hg)) ye ⟨trivial, yn⟩ rfl rfl tok26)) ?_
   refine yG (fun hg => OpX.v (ov_rem_pos rfl (look_gv rfl (bq hg)) rfl ya ya)) ?_
   refine yG (fun hg => OpX.v (ov_neq rfl (look_gv rfl (bq hg)) (look_gv rfl (bq hg)))) ?_
   refine yR (ov_and rfl rfl rfl rfl (fun h => bq h)) ?_
   refine RO_nil (W_cond rfl (fun hc3 => ?_) (fun hc3 => ?_))
   ·
    refine w1 ((yM ?_))
    refine yR (ov_fieldAddr rfl rfl fa31_4 rfl) ?_
    refine yR (ov_load rfl rfl ye ⟨trivial, yn⟩ rfl rfl tok5) ?_
    refine yP (yV rfl rfl rfl Tryz.call156 (by apply c_ref13_Up <;> exact yz)) ?_
    refine yR (ov_sub rfl rfl rfl ya) ?_
    refine yA_ ?_
    refine RO_nil (W_ret ⟨trivial, yb, (ResV_tmp1 rfl rfl ?_)⟩)
    exact xbsy
   ·
    refine W_skip (w1 ((yA_ ?_)))
    refine RO_nil (W_ret ⟨trivial, yb, (ResV_tmp1 rfl rfl ?_)⟩)
    exact xbsy

theorem c_ref14_Goals (s : Int) (M : List Fact) : Pure Tryz.prog 174 [.int .i64 s] M (.tuple #[.int .i64 (goR s).1, .int .i64 (goR s).2]) := by
 refine pure_of_W (n := 6) Tryz.func174 rfl rfl yn ?_
 refine w1 ((yA_ ?_))
 refine yA_ ?_
 refine RO_nil (W_seq (w1 ((yM ?_))))
 refine yR (ov_eql rfl rfl rfl) ?_
 refine RO_nil (W_cond rfl (fun hc1 => ?_) (fun hc1 => ?_))
 ·
  refine w1 ((yA_ ?_))
  refine yA_ ?_
  refine RO_nil (W_ret ⟨trivial, yb, (ResV_tmp2q rfl rfl rfl ?_)⟩)
  first | (rw [show goR s = _ from if_pos hc1]) | (rw [show goR s = _ from if_neg (Bool.eq_false_iff.1 hc1)])
 ·
  refine W_skip (w1 ((yA_ ?_)))
  refine yA_ ?_
  refine RO_nil (W_ret ⟨trivial, yb, (ResV_tmp2q rfl rfl rfl ?_)⟩)
  first | (rw [show goR s = _ from if_pos hc1]) | (rw [show goR s = _ from if_neg (Bool.eq_false_iff.1 hc1)])

theorem c_ref14_within (s a b : Int) (M : List Fact) : Pure Tryz.prog 178 [.int .i64 s, .int .i64 a, .int .i64 b] M (.bool (withinR s a b)) := by
 refine pure_of_W (n := 25) Tryz.func178 rfl rfl yn ?_
 refine w1 ((yA_ ?_))
 refine RO_nil (w1 ((yM ?_)))
 refine yM ?_
 refine yR (ov_geq rfl rfl rfl) ?_
 refine yM ?_
 refine gM ?_
 refine gM ?_
 refine yG (fun hg => OpX.v (ov_leq rfl (look_gv rfl (bq hg)) (look_gv rfl (bq hg)))) ?_
 refine yR (ov_and rfl rfl rfl rfl (fun h => bq h)) ?_
 refine yM ?_
 refine gM ?_
 refine gM ?_
 refine yG (fun hg => OpX.v (ov_geq rfl (look_gv rfl (bq hg)) (look_gv rfl (bq hg)))) ?_
 refine yG (fun hg => OpX.v (ov_move rfl (look_gv rfl (bq hg)))) ?_
 refine RO_g rfl rfl rfl rfl rfl yd (fun hg1 hg2 => OpX.v (ov_move rfl rfl)) ?_
 refine RO_g rfl rfl rfl rfl rfl yd (fun hg1 hg2 => OpX.v (ov_move rfl rfl)) ?_
 refine RO_g rfl rfl rfl rfl rfl yd (fun hg1 hg2 => OpX.v (ov_leq rfl (look_gv rfl (bq2 hg1 hg2)) (look_gv rfl (bq2 hg1 hg2)))) ?_
 refine yG (fun hg => OpX.v (ov_and rfl (look_gv rfl (bq hg)) rfl rfl (fun h => bq2 (bq hg) h))) ?_
 refine yR (ov_or rfl rfl rfl rfl (fun h => bq h)) ?_
 refine yA_ ?_
 refine RO_nil (W_ret ⟨trivial, yb, (ResV_tmp1 rfl rfl ?_)⟩)
 rfl

theorem c_ref14_safe (p : Pos) (hp : POK p) (s : Int) (M : List Fact) (ht : tu p ≤ 1) (h0 : 0 ≤ s) (h1 : s < 64) : Pure Tryz.prog 179 [enc posT p, .int .i64 s] M (.bool (safeR p s)) := by
 obtain ⟨hb, hpw, hvr, htu, hpg, hvr0, htu0⟩ := hp.head
 have ht2 := ht
 simp only [tu] at ht2
 refine pure_of_W (n := 33) Tryz.func179 rfl rfl yn ?_
 refine w2 (fun w0 => ?_)
 refine LO_l rfl (by decide : 2 < 33) (ol_box (t := posT) rfl rfl rfl yf (fun b1 => ?_))
 refine zA ?_
 refine LO_nil (W_seq (w1 ((yA_ ?_))))
 refine RO_nil (W_block (W_loop (σ := Nat) (fun i => i ≤ 64 ∧ nearKing p (tu p) s i = false) (fun i => [(1, .int .i64 s), (2, ptrv b1 posT []), (5, .int .i64 (i : Int))]) (fun i => .box b1 31 posT _ :: M) (fun i => 64 - i) (0) ⟨by omega, rfl⟩ ⟨rfl, rfl, rfl, trivial⟩ yb ?_))
 rintro i ⟨hI, hN⟩
 refine W_seq (w1 ((yM ?_)))
 refine yR (ov_lss rfl rfl rfl) ?_
 refine yM ?_
 refine yG (fun hg => OpX.v (ov_fieldAddr rfl rfl fa31_0 rfl)) ?_
 refine yG (fun hg => OpX.v (ov_load rfl (look_gv rfl (bq hg)) ye ⟨trivial, yn⟩ rfl rfl tok5)) ?_
 refine yG (fun hg => OpX.v (ov_eql rfl (look_gv rfl (bq hg)) rfl)) ?_
 refine yR (ov_and rfl rfl rfl rfl (fun h => bq h)) ?_
 refine RO_nil (W_cond rfl (fun hc1 => ?_) (fun hc1 => ?_))
 ·
  have hc3 := of_decide_eq_true (Bool.and_eq_true_iff.1 hc1).1
  refine W_skip (W_seq (W_block (w1 ((yR (ov_load rfl rfl ye trivial rfl rfl tok31) ?_)))))
  refine yM ?_
  refine yR (ov_fieldAddr rfl rfl fa31_4 rfl) ?_
  refine yR (ov_load rfl rfl ye ⟨trivial, yn⟩ rfl rfl tok5) ?_
  refine yR (ov_sub rfl rfl rfl ya) ?_
  refine yP (yV rfl rfl rfl Tryz.call89 (by apply c_ref08_Is <;> exact yz)) ?_
  refine yM ?_
  refine gM ?_
  refine gM ?_
  refine yG (fun hg => yV rfl rfl (looks_cons (look_gv rfl (bq hg)) (looks_cons (look_gv rfl (bq hg)) looks_nil)) Tryz.call151 (by apply c_ref08_Beside <;> exact yz)) ?_
  refine yR (ov_and rfl rfl rfl rfl (fun h => bq h)) ?_
  refine RO_nil (W_cond rfl (fun hc2 => ?_) (fun hc2 => ?_))
  ·
   refine w1 ((yA_ ?_))
   refine RO_nil (W_ret ⟨trivial, yb, (ResV_tmp1 rfl rfl ?_)⟩)
   first | exact val_bool (safe_yes (i := i) yo hc2 hc1).symm | exact val_bool (safe_no hI hN hc1).symm
  ·
   refine W_skip (W_reg (yM ?_))
   refine yR (ov_add rfl rfl rfl ya) ?_
   refine yA_ ?_
   refine RO_nil ?_
   exact ⟨i + 1, yo, ⟨by omega, nearKing_f hN hc2⟩, ⟨rfl, rfl, rfl, trivial⟩, yb⟩
 ·
  refine W_exit (w1 ((yR (ov_load rfl rfl ye trivial rfl rfl tok31) ?_)))
  refine yM ?_
  refine yR (ov_fieldAddr rfl rfl fa31_4 rfl) ?_
  refine yR (ov_load rfl rfl ye ⟨trivial, yn⟩ rfl rfl tok5) ?_
  refine yR (ov_sub rfl rfl rfl ya) ?_
  refine yP (yV rfl rfl rfl Tryz.call130 (by apply c_ref08_By <;> exact yz)) ?_
  refine yR (ov_eql64 (b := 0#64) rfl rfl rfl) ?_
  refine yA_ ?_
  refine RO_nil (W_ret ⟨trivial, yb, (ResV_tmp1 rfl rfl ?_)⟩)
  first | exact val_bool (safe_yes (i := i) yo hc2 hc1).symm | exact val_bool (safe_no hI hN hc1).symm

theorem c_ref14_May (p : Pos) (hp : POK p) (side : Int) (M : List Fact) (h0 : 0 ≤ side) (h1 : side ≤ 1) : Pure Tryz.prog 135 [enc posT p, .int .i64 side] M (.tuple #[.int .i64 (mayC p side).1, .int .i64 (mayC p side).2.1, .bool (mayC p side).2.2]) := by
 obtain ⟨hb, hpw, hvr, htu, hpg, hvr0, htu0⟩ := hp.head
 have hkr := find_rng p (tu p) 6
 have hkr0 := hkr
 simp only [tu] at hkr0
 have hfr := castF_rng hp side
 have hfr0 := hfr
 simp only [castF, rk, tu] at hfr0
 have hgo := goR_rng side
 refine pure_of_W (n := 138) Tryz.func135 rfl rfl yn ?_
 refine w2 (fun w0 => ?_)
 refine LO_l rfl (by decide : 2 < 138) (ol_box (t := posT) rfl rfl rfl yf (fun b1 => ?_))
 refine zA ?_
 refine zA ?_
 refine zA ?_
 refine LO_nil (W_seq (w1 ((yR (ov_fieldAddr rfl rfl fa31_4 rfl) ?_))))
 refine yR (ov_load rfl rfl ye ⟨trivial, yn⟩ rfl rfl tok5) ?_
 refine yR (ov_gtr rfl rfl rfl) ?_
 refine yM ?_
 refine yG (fun hg => OpX.v (ov_fieldAddr rfl rfl fa31_0 rfl)) ?_
 refine yG (fun hg => OpX.v (ov_load rfl (look_gv rfl (bq hg)) ye ⟨trivial, yn⟩ rfl rfl tok5)) ?_
 refine yG (fun hg => yV rfl rfl (looks_cons (look_gv rfl (bq hg)) looks_nil) Tryz.call87 (by apply c_ref07_Castles <;> exact yz)) ?_
 refine yG (fun hg => OpX.v (ov_not rfl (look_gv rfl (bq hg)))) ?_
 refine yR (ov_or rfl rfl rfl rfl (fun h => bq h)) ?_
 refine RO_nil (W_cond rfl (fun hc1 => ?_) (fun hc1 => ?_))
 ·
  refine w1 ((yA_ ?_))
  refine yA_ ?_
  refine yA_ ?_
  refine RO_nil (W_ret ⟨trivial, yb, (ResV_tmp3q rfl rfl rfl rfl ?_)⟩)
  exact xbty
 ·
  have ht1 : tu p ≤ 1 := Int.not_lt.1 (of_decide_eq_false (Bool.or_eq_false_iff.1 hc1).1)
  have ht2 := ht1
  simp only [tu] at ht2
  refine W_skip (w1 ((yR (ov_fieldAddr rfl rfl fa31_4 rfl) ?_)))
  refine yR (ov_load rfl rfl ye ⟨trivial, yn⟩ rfl rfl tok5) ?_
  refine yR (ov_convn rfl rfl Tryz.underlying5 Tryz.underlying3 ya) ?_
  refine yR (ov_mul rfl rfl rfl ya) ?_
  refine yA_ ?_
  refine RO_nil (w1 ((yR (ov_load rfl rfl ye trivial rfl rfl tok31) ?_)))
  refine yR (ov_fieldAddr rfl rfl fa31_4 rfl) ?_
  refine yR (ov_load rfl rfl ye ⟨trivial, yn⟩ rfl rfl tok5) ?_
  refine yP (yV rfl rfl rfl Tryz.call88 (by apply c_ref08_Find <;> exact yz)) ?_
  refine yA_ ?_
  refine RO_nil (w1 ((yR (ov_fieldAddr rfl rfl fa31_4 rfl) ?_)))
  refine yR (ov_load rfl rfl ye ⟨trivial, yn⟩ rfl rfl tok5) ?_
  refine yM ?_
  refine yR (ov_fieldAddr rfl rfl fa31_5 rfl) ?_
  refine yR (ov_indexAddr rfl rfl rfl Tryz.underlying28 rfl Tryz.sizeOf27 ya ya) ?_
  refine yR (ov_indexAddr rfl rfl rfl Tryz.underlying27 rfl Tryz.sizeOf26 ya ya) ?_
  refine yR (ov_load rfl rfl ye ⟨⟨⟨trivial, yn⟩, (tn ya ya)⟩, (tn ya ya)⟩ rfl rfl tok26) ?_
  refine yR (ov_convn rfl rfl Tryz.underlying26 Tryz.underlying3 ya) ?_
  refine yA_ ?_
  refine RO_nil (W_seq (w1 ((yM ?_))))
  refine yM ?_
  refine yR (ov_lss rfl rfl rfl) ?_
  refine yM ?_
  refine gM ?_
  refine gM ?_
  refine yG (fun hg => OpX.v (ov_add rfl (look_gv rfl (bq hg)) rfl ya)) ?_
  refine yG (fun hg => OpX.v (ov_gtr rfl (look_gv rfl (bq hg)) (look_gv rfl (bq hg)))) ?_
  refine yR (ov_or rfl rfl rfl rfl (fun h => bq h)) ?_
  refine yM ?_
  refine gM ?_
  refine yG (fun hg => OpX.v (ov_lss rfl (look_gv rfl (bq hg)) rfl)) ?_
  refine yR (ov_or rfl rfl rfl rfl (fun h => bq h)) ?_
  refine yM ?_
  refine gM ?_
  refine yG (fun hg => OpX.v (ov_gtr rfl (look_gv rfl (bq hg)) rfl)) ?_
  refine yR (ov_or rfl rfl rfl rfl (fun h => bq h)) ?_
  refine RO_nil (W_cond rfl (fun hc2 => ?_) (fun hc2 => ?_))
  ·
   refine w1 ((yA_ ?_))
   refine yA_ ?_
   refine yA_ ?_
   refine RO_nil (W_ret ⟨trivial, yb, (ResV_tmp3q rfl rfl rfl rfl ?_)⟩)
   exact xbty
  ·
   have hkf := cast_rng hc2
   have hkf0 := hkf
   simp only [castF, rk, tu] at hkf0
   have hqq := POK_put (POK_put hp (find p (tu p) 6) (v := 0) yd yd) (56 * tu p + (castF p side)) (v := 0) yd yd
   have hqw := hqq.wf
   have hqb := hqq.board
   refine W_skip (w1 ((yM ?_)))
   refine yM ?_
   refine yR (ov_add rfl rfl rfl ya) ?_
   refine yA_ ?_
   refine RO_nil (W_seq (w1 ((yR (ov_load rfl rfl ye trivial rfl rfl tok31) ?_))))
   refine yM ?_
   refine yR (ov_fieldAddr rfl rfl fa31_4 rfl) ?_
   refine yR (ov_load rfl rfl ye ⟨trivial, yn⟩ rfl rfl tok5) ?_
   refine yP (yV rfl rfl rfl Tryz.call89 (by apply c_ref08_Is <;> exact yz)) ?_
   refine yR (ov_not rfl rfl) ?_
   refine yM ?_
   refine gM ?_
   refine yG (fun hg => OpX.v (ov_eql rfl (look_gv rfl (bq hg)) rfl)) ?_
   refine yG (fun hg => OpX.v (ov_move rfl (look_gv rfl (bq hg)))) ?_
   refine RO_g rfl rfl rfl rfl rfl yd (fun hg1 hg2 => OpX.v (ov_move rfl rfl)) ?_
   refine RO_g rfl rfl rfl rfl rfl yd (fun hg1 hg2 => OpX.v (ov_move rfl rfl)) ?_
   refine RO_g rfl rfl rfl rfl rfl yd (fun hg1 hg2 => OpX.v (ov_lss rfl (look_gv rfl (bq2 hg1 hg2)) (look_gv rfl (bq2 hg1 hg2)))) ?_
   refine yG (fun hg => OpX.v (ov_and rfl (look_gv rfl (bq hg)) rfl rfl (fun h => bq2 (bq hg) h))) ?_
   refine yR (ov_or rfl rfl rfl rfl (fun h => bq h)) ?_
   refine yM ?_
   refine gM ?_
   refine yG (fun hg => OpX.v (ov_eql rfl (look_gv rfl (bq hg)) rfl)) ?_
   refine yG (fun hg => OpX.v (ov_move rfl (look_gv rfl (bq hg)))) ?_
   refine RO_g rfl rfl rfl rfl rfl yd (fun hg1 hg2 => OpX.v (ov_move rfl rfl)) ?_
   refine RO_g rfl rfl rfl rfl rfl yd (fun hg1 hg2 => OpX.v (ov_move rfl rfl)) ?_
   refine RO_g rfl rfl rfl rfl rfl yd (fun hg1 hg2 => OpX.v (ov_gtr rfl (look_gv rfl (bq2 hg1 hg2)) (look_gv rfl (bq2 hg1 hg2)))) ?_
   refine yG (fun hg => OpX.v (ov_and rfl (look_gv rfl (bq hg)) rfl rfl (fun h => bq2 (bq hg) h))) ?_
   refine yR (ov_or rfl rfl rfl rfl (fun h => bq h)) ?_
   refine RO_nil (W_cond rfl (fun hc3 => ?_) (fun hc3 => ?_))
   ·
    refine w1 ((yA_ ?_))
    refine yA_ ?_
    refine yA_ ?_
    refine RO_nil (W_ret ⟨trivial, yb, (ResV_tmp3q rfl rfl rfl rfl ?_)⟩)
    exact xbty
   ·
    refine W_skip (w1 ((yM ?_)))
    refine yP (yV rfl rfl rfl Tryz.call174 (by apply c_ref14_Goals <;> exact yz)) ?_
    refine yM ?_
    refine yR (ov_extract rfl rfl rfl) ?_
    refine yR (ov_extract rfl rfl rfl) ?_
    refine yA_ ?_
    refine yA_ ?_
    refine RO_nil (w2 (fun w0 => ?_))
    refine yL (ov_load rfl rfl ye trivial rfl rfl tok31) ?_
    refine LO_l rfl (by decide : 13 < 138) (ol_alloc (t := posT) rfl tok31 yf (fun b2 => ?_))
    refine LO_l rfl trivial (ol_sw0 rfl rfl rfl rfl yf tok31 ?_)
    refine LO_nil (w2 (fun w0 => ?_))
    refine zM ?_
    refine yL (ov_fieldAddr rfl rfl fa31_1 rfl) ?_
    refine yL (ov_indexAddr rfl rfl rfl Tryz.underlying22 rfl Tryz.sizeOf5 ya ya) ?_
    refine LO_l rfl trivial (ol_st0 rfl rfl rfl ⟨⟨trivial, yn⟩, (tn ya ya)⟩ rfl yf tok5 ?_)
    refine LO_nil (w2 (fun w0 => ?_))
    refine zM ?_
    refine yL (ov_fieldAddr rfl rfl fa31_1 rfl) ?_
    refine yL (ov_indexAddr rfl rfl rfl Tryz.underlying22 rfl Tryz.sizeOf5 ya ya) ?_
    refine LO_l rfl trivial (ol_st0 rfl rfl rfl ⟨⟨trivial, yn⟩, (tn ya ya)⟩ rfl yf tok5 ?_)
    refine LO_nil (W_seq (w1 ((yM ?_))))
    refine yA_ ?_
    refine RO_nil (W_block (W_loop (σ := Nat) (fun i => i ≤ 8 ∧ okTo (badR p side) i = true) (fun i => [(13, ptrv b2 posT []), (7, .int .i64 (56 * tu p)), (8, .int .i64 (find p (tu p) 6)), (10, .int .i64 (56 * tu p + castF p side)), (11, .int .i64 (goR side).1), (12, .int .i64 (goR side).2), (14, .int .i64 (56 * tu p + (i : Int)))]) (fun i => .box b2 31 posT (takeQ p side) :: .box b1 31 posT p :: M) (fun i => 8 - i) (0) ⟨by omega, rfl⟩ ⟨rfl, rfl, rfl, rfl, rfl, rfl, congrArg some (val_int (by simp only [tu]; omega)), trivial⟩ yb ?_))
    rintro i ⟨hI, hN⟩
    refine W_seq (w1 ((yM ?_)))
    refine yM ?_
    refine yR (ov_add rfl rfl rfl ya) ?_
    refine yR (ov_lss rfl rfl rfl) ?_
    refine RO_nil (W_cond rfl (fun hc4 => ?_) (fun hc4 => ?_))
    ·
     have hi8 : i < 8 := by have := of_decide_eq_true hc4; omega
     refine W_skip (W_seq (W_block (w1 ((yM ?_)))))
     refine yM ?_
     refine yM ?_
     refine yM ?_
     refine yR (ov_add rfl rfl rfl ya) ?_
     refine yP (yV rfl rfl rfl Tryz.call178 (by apply c_ref14_within <;> exact yz)) ?_
     refine yA_ ?_
     refine RO_nil (w1 ((yM ?_)))
     refine yM ?_
     refine gM ?_
     refine gM ?_
     refine gM ?_
     refine gM ?_
     refine yG (fun hg => OpX.v (ov_add rfl (look_gv rfl (bq hg)) (look_gv rfl (bq hg)) ya)) ?_
     refine yG (fun hg => yV rfl rfl (looks_cons (look_gv rfl (bq hg)) (looks_cons (look_gv rfl (bq hg)) (looks_cons (look_gv rfl (bq hg)) looks_nil))) Tryz.call178 (by apply c_ref14_within <;> exact yz)) ?_
     refine yR (ov_or rfl rfl rfl rfl (fun h => bq h)) ?_
     refine yM ?_
     refine gM ?_
     refine yG (fun hg => OpX.v (ov_fieldAddr rfl rfl fa31_1 rfl)) ?_
     refine yG (fun hg => OpX.v (ov_indexAddr rfl (look_gv rfl (bq hg)) (look_gv rfl (bq hg)) Tryz.underlying22 rfl Tryz.sizeOf5 ya ya)) ?_
     refine yG (fun hg => OpX.v (ov_load rfl (look_gv rfl (bq hg)) ye ⟨⟨trivial, yn⟩, (tn ya ya)⟩ rfl rfl tok5)) ?_
     refine yG (fun hg => yV rfl rfl (looks_cons (look_gv rfl (bq hg)) looks_nil) Tryz.call84 (c_ref08_Kind _ _ (hqb _).1 (hqb _).2)) ?_
     refine yG (fun hg => OpX.v (ov_neq rfl (look_gv rfl (bq hg)) rfl)) ?_
     refine yR (ov_and rfl rfl rfl rfl (fun h => bq h)) ?_
     refine yM ?_
     refine gM ?_
     refine yG (fun hg => OpX.v (ov_move rfl (look_gv rfl (bq hg)))) ?_
     refine RO_g rfl rfl rfl rfl rfl yd (fun hg1 hg2 => OpX.v (ov_load rfl rfl ye trivial rfl rfl tok31)) ?_
     refine RO_g rfl rfl rfl rfl rfl yd (fun hg1 hg2 => OpX.v (ov_move rfl rfl)) ?_
     refine RO_g rfl rfl rfl rfl rfl yd (fun hg1 hg2 => yV rfl rfl (looks_cons (look_gv rfl (bq2 hg1 hg2)) (looks_cons (look_gv rfl (bq2 hg1 hg2)) looks_nil)) Tryz.call179 (c_ref14_safe _ hqq _ _ ht1 (by simp only [tu]; omega) (by simp only [tu]; omega))) ?_
     refine RO_g rfl rfl rfl rfl rfl yd (fun hg1 hg2 => OpX.v (ov_not rfl (look_gv rfl (bq2 hg1 hg2)))) ?_
     refine yG (fun hg => OpX.v (ov_and rfl (look_gv rfl (bq hg)) rfl rfl (fun h => bq2 (bq hg) h))) ?_
     refine yR (ov_or rfl rfl rfl rfl (fun h => bq h)) ?_
     refine RO_nil (W_cond rfl (fun hc5 => ?_) (fun hc5 => ?_))
     ·
      refine w1 ((yA_ ?_))
      refine yA_ ?_
      refine yA_ ?_
      refine RO_nil (W_ret ⟨trivial, yb, (ResV_tmp3q rfl rfl rfl rfl ?_)⟩)
      exact xbty
     ·
      refine W_skip (W_reg (yM ?_))
      refine yR (ov_add rfl rfl rfl ya) ?_
      refine yA_ ?_
      refine RO_nil ?_
      exact ⟨i + 1, yo, ⟨by omega, okTo_next hN hc5⟩, ⟨rfl, rfl, rfl, rfl, rfl, rfl, congrArg some (val_int (by simp only [tu]; omega)), trivial⟩, yb⟩
    ·
     refine W_exit (w1 ((yM ?_)))
     refine yM ?_
     refine yA_ ?_
     refine yA_ ?_
     refine yA_ ?_
     refine RO_nil (W_ret ⟨trivial, yb, (ResV_tmp3q rfl rfl rfl rfl ?_)⟩)
     exact xbty

theorem c_ref14_List (p : Pos) (hp : POK p) (M : List Fact) : Con Tryz.prog 61 [enc posT p] M (fun u M' => M' = .row u 55 moveT (list14 p) :: M) := by
 obtain ⟨hb, hpw, hvr, htu, hpg, hvr0, htu0⟩ := hp.head
 refine con_of_W (n := 29) Tryz.func61 rfl rfl yn ?_
 refine w2 (fun w0 => ?_)
 refine LO_l rfl (by decide : 1 < 29) (ol_box (t := posT) rfl rfl rfl yf (fun b1 => ?_))
 refine zA ?_
 refine LO_nil (W_seq (W_row 55 moveT ?_))
 refine W_reg (yA_ ?_)
 refine RO_nil (W_seq (w1 ((yA_ ?_))))
 refine RO_nil (W_block (W_loop (σ := Nat × Value) (fun s => s.1 ≤ 2) (fun s => [(1, ptrv b1 posT []), (4, .int .i64 (1 - (s.1 : Int))), (3, s.2)]) (fun s => .row s.2 55 moveT (outR p s.1) :: .box b1 31 posT p :: M) (fun s => 2 - s.1) ((0, .slice none 0 0)) (by simp) ⟨rfl, rfl, rfl, trivial⟩ yb ?_))
 rintro ⟨i, v⟩ hI
 simp only at hI
 have hol := outR_len p i
 have hmr := mayC_rng hp (1 - (i : Int))
 refine W_seq (w1 ((yM ?_)))
 refine yR (ov_geq rfl rfl rfl) ?_
 refine RO_nil (W_cond rfl (fun hc1 => ?_) (fun hc1 => ?_))
 ·
  try simp only [yS] at hc1
  refine W_skip (W_seq (W_block (w1 ((yR (ov_load rfl rfl ye trivial rfl rfl tok31) ?_)))))
  refine yM ?_
  refine yP (yV rfl rfl rfl Tryz.call135 (c_ref14_May p hp (1 - (i : Int)) _ yo yo)) ?_
  refine yM ?_
  refine yR (ov_extract rfl rfl rfl) ?_
  refine yR (ov_extract rfl rfl rfl) ?_
  refine yR (ov_extract rfl rfl rfl) ?_
  refine yA_ ?_
  refine yA_ ?_
  refine yA_ ?_
  refine RO_nil (w1 ((yM ?_)))
  refine RO_nil (W_cond rfl (fun hc2 => ?_) (fun hc2 => ?_))
  ·
   refine W_regl (fun w0 => ?_)
   refine zM ?_
   refine zM ?_
   refine yL (ov_convn rfl rfl Tryz.underlying3 Tryz.underlying26 ya) ?_
   refine zM ?_
   refine yL (ov_convn rfl rfl Tryz.underlying3 Tryz.underlying26 ya) ?_
   refine yL (ov_build (fs := fs54) (ds := [⟨0, _⟩, ⟨1, _⟩, ⟨4, _⟩]) rfl rfl bl55 ⟨yn, yf, ⟨yn, yf, ⟨yn, yf, trivial⟩⟩⟩ rfl) ?_
   refine LO_l rfl (by decide : 26 < 29) (ol_buildSlice (t := moveT) (xs := [_]) rfl rfl rfl Tryz.underlying48 tok55 xaey yd yd yd (fun v1 => ?_))
   refine LO_l rfl (by decide : 27 < 29) (ol_ap1 (t := moveT) rfl rfl rfl xaby ap48 xafy xafy (fun v2 => ?_))
   refine zA ?_
   refine LO_nil (W_reg (yM ?_))
   refine yR (ov_sub rfl rfl rfl ya) ?_
   refine yA_ ?_
   refine RO_nil ?_
   exact ⟨(i + 1, _), xaly, xaly, ⟨rfl, congrArg some (val_int yo), rfl, trivial⟩, (by first | (rw [outR_yes yA]; exact yb) | (rw [outR_no yA]; exact yb))⟩
  ·
   refine W_skip (W_reg (yM ?_))
   refine yR (ov_sub rfl rfl rfl ya) ?_
   refine yA_ ?_
   refine RO_nil ?_
   exact ⟨(i + 1, _), xaly, xaly, ⟨rfl, congrArg some (val_int yo), rfl, trivial⟩, (by first | (rw [outR_yes yA]; exact yb) | (rw [outR_no yA]; exact yb))⟩
 ·
  try simp only [yS] at hc1
  refine W_exit (w1 ((yM ?_)))
  refine yA_ ?_
  refine RO_nil (W_ret ⟨trivial, _, .row _ 55 moveT (list14 p) :: M, (ResV_tmp1 rfl rfl rfl), ?_, rfl⟩)
  rw [show list14 p = outR p 2 from rfl, show 2 = i by omega]; exact yb

theorem c_ref14_Side (p : Pos) (hp : POK p) (m : Mv) (hm : MOK m) (M : List Fact) : Pure Tryz.prog 173 [enc posT p, enc moveT m] M (.int .i64 (sideR p m)) := by
 obtain ⟨hb, hpw, hvr, htu, hpg, hvr0, htu0⟩ := hp.head
 have hmF := hm.f
 have hmT := hm.t
 have hmP := hm.p
 have hmD := hm.d
 have hmF0 := hm.f
 have hmT0 := hm.t
 have hmP0 := hm.p
 have hmD0 := hm.d
 simp only [mF] at hmF0
 simp only [mT] at hmT0
 simp only [mP] at hmP0
 simp only [mD] at hmD0
 have hmw := wf_move m
 refine pure_of_W (n := 65) Tryz.func173 rfl rfl yn ?_
 refine w2 (fun w0 => ?_)
 refine LO_l rfl (by decide : 2 < 65) (ol_box (t := posT) rfl rfl rfl yf (fun b1 => ?_))
 refine LO_l rfl (by decide : 3 < 65) (ol_box (t := moveT) rfl rfl rfl yf (fun b2 => ?_))
 refine zA ?_
 refine LO_nil (W_seq (w1 ((yR (ov_fieldAddr rfl rfl fa31_4 rfl) ?_))))
 refine yR (ov_load rfl rfl ye ⟨trivial, yn⟩ rfl rfl tok5) ?_
 refine yR (ov_gtr rfl rfl rfl) ?_
 refine yM ?_
 refine yG (fun hg => OpX.v (ov_fieldAddr rfl rfl fa55_4 rfl)) ?_
 refine yG (fun hg => OpX.v (ov_load rfl (look_gv rfl (bq hg)) ye ⟨trivial, yn⟩ rfl rfl tok4)) ?_
 refine yG (fun hg => OpX.v (ov_not rfl (look_gv rfl (bq hg)))) ?_
 refine yR (ov_or rfl rfl rfl rfl (fun h => bq h)) ?_
 refine yM ?_
 refine yG (fun hg => OpX.v (ov_fieldAddr rfl rfl fa55_0 rfl)) ?_
 refine yG (fun hg => OpX.v (ov_load rfl (look_gv rfl (bq hg)) ye ⟨trivial, yn⟩ rfl rfl tok26)) ?_
 refine yG (fun hg => OpX.v (ov_fieldAddr rfl rfl fa55_1 rfl)) ?_
 refine yG (fun hg => OpX.v (ov_load rfl (look_gv rfl (bq hg)) ye ⟨trivial, yn⟩ rfl rfl tok26)) ?_
 refine yG (fun hg => OpX.v (ov_eql rfl (look_gv rfl (bq hg)) (look_gv rfl (bq hg)))) ?_
 refine yR (ov_or rfl rfl rfl rfl (fun h => bq h)) ?_
 refine yM ?_
 refine yG (fun hg => OpX.v (ov_fieldAddr rfl rfl fa55_0 rfl)) ?_
 refine yG (fun hg => OpX.v (ov_load rfl (look_gv rfl (bq hg)) ye ⟨trivial, yn⟩ rfl rfl tok26)) ?_
 refine yG (fun hg => OpX.v (ov_lss rfl (look_gv rfl (bq hg)) rfl)) ?_
 refine yR (ov_or rfl rfl rfl rfl (fun h => bq h)) ?_
 refine yM ?_
 refine yG (fun hg => OpX.v (ov_fieldAddr rfl rfl fa55_0 rfl)) ?_
 refine yG (fun hg => OpX.v (ov_load rfl (look_gv rfl (bq hg)) ye ⟨trivial, yn⟩ rfl rfl tok26)) ?_
 refine yG (fun hg => OpX.v (ov_gtr rfl (look_gv rfl (bq hg)) rfl)) ?_
 refine yR (ov_or rfl rfl rfl rfl (fun h => bq h)) ?_
 refine yM ?_
 refine yG (fun hg => OpX.v (ov_fieldAddr rfl rfl fa55_1 rfl)) ?_
 refine yG (fun hg => OpX.v (ov_load rfl (look_gv rfl (bq hg)) ye ⟨trivial, yn⟩ rfl rfl tok26)) ?_
 refine yG (fun hg => OpX.v (ov_lss rfl (look_gv rfl (bq hg)) rfl)) ?_
 refine yR (ov_or rfl rfl rfl rfl (fun h => bq h)) ?_
 refine yM ?_
 refine yG (fun hg => OpX.v (ov_fieldAddr rfl rfl fa55_1 rfl)) ?_
 refine yG (fun hg => OpX.v (ov_load rfl (look_gv rfl (bq hg)) ye ⟨trivial, yn⟩ rfl rfl tok26)) ?_
 refine yG (fun hg => OpX.v (ov_gtr rfl (look_gv rfl (bq hg)) rfl)) ?_
 refine yR (ov_or rfl rfl rfl rfl (fun h => bq h)) ?_
 refine yM ?_
 refine yG (fun hg => OpX.v (ov_fieldAddr rfl rfl fa55_0 rfl)) ?_
 refine yG (fun hg => OpX.v (ov_load rfl (look_gv rfl (bq hg)) ye ⟨trivial, yn⟩ rfl rfl tok26)) ?_
 refine RO_g1 rfl rfl rfl rfl rfl yd (fun hg => by have hgx := hg; (try simp only [yS] at hgx); exact OpX.v (ov_quo_pos rfl (look_gv rfl (bq hg)) rfl ya ya ya)) ?_
 refine yG (fun hg => OpX.v (ov_fieldAddr rfl rfl fa31_4 rfl)) ?_
 refine yG (fun hg => OpX.v (ov_load rfl (look_gv rfl (bq hg)) ye ⟨trivial, yn⟩ rfl rfl tok5)) ?_
 refine RO_g1 rfl rfl rfl rfl rfl yd (fun hg => by have hgx := hg; (try simp only [yS] at hgx); exact OpX.v (ov_mul rfl rfl (look_gv rfl (bq hg)) ya)) ?_
 refine RO_g1 rfl rfl rfl rfl rfl yd (fun hg => by have hgx := hg; (try simp only [yS] at hgx); exact OpX.v (ov_convn rfl (look_gv rfl (bq hg)) Tryz.underlying5 Tryz.underlying26 ya)) ?_
 refine yG (fun hg => OpX.v (ov_neq rfl (look_gv rfl (bq hg)) (look_gv rfl (bq hg)))) ?_
 refine yR (ov_or rfl rfl rfl rfl (fun h => bq h)) ?_
 refine yM ?_
 refine yG (fun hg => OpX.v (ov_fieldAddr rfl rfl fa55_1 rfl)) ?_
 refine yG (fun hg => OpX.v (ov_load rfl (look_gv rfl (bq hg)) ye ⟨trivial, yn⟩ rfl rfl tok26)) ?_
 refine RO_g1 rfl rfl rfl rfl rfl yd (fun hg => by have hgx := hg; (try simp only [yS] at hgx); exact OpX.v (ov_quo_pos rfl (look_gv rfl (bq hg)) rfl ya ya ya)) ?_
 refine yG (fun hg => OpX.v (ov_fieldAddr rfl rfl fa31_4 rfl)) ?_
 refine yG (fun hg => OpX.v (ov_load rfl (look_gv rfl (bq hg)) ye ⟨trivial, yn⟩ rfl rfl tok5)) ?_
 refine RO_g1 rfl rfl rfl rfl rfl yd (fun hg => by have hgx := hg; (try simp only [yS] at hgx); exact OpX.v (ov_mul rfl rfl (look_gv rfl (bq hg)) ya)) ?_
 refine RO_g1 rfl rfl rfl rfl rfl yd (fun hg => by have hgx := hg; (try simp only [yS] at hgx); exact OpX.v (ov_convn rfl (look_gv rfl (bq hg)) Tryz.underlying5 Tryz.underlying26 ya)) ?_
 refine yG (fun hg => OpX.v (ov_neq rfl (look_gv rfl (bq hg)) (look_gv rfl (bq hg)))) ?_
 refine yR (ov_or rfl rfl rfl rfl (fun h => bq h)) ?_
 refine RO_nil (W_cond rfl (fun hc1 => ?_) (fun hc1 => ?_))
 ·
  refine w1 ((yA_ ?_))
  refine RO_nil (W_ret ⟨trivial, yb, (ResV_tmp1 rfl rfl ?_)⟩)
  exact xbuy
 ·
  refine W_skip (W_seq (w1 ((yR (ov_fieldAddr rfl rfl fa55_1 rfl) ?_))))
  refine yR (ov_load rfl rfl ye ⟨trivial, yn⟩ rfl rfl tok26) ?_
  refine yR (ov_fieldAddr rfl rfl fa55_0 rfl) ?_
  refine yR (ov_load rfl rfl ye ⟨trivial, yn⟩ rfl rfl tok26) ?_
  refine yR (ov_gtr rfl rfl rfl) ?_
  refine RO_nil (W_cond rfl (fun hc2 => ?_) (fun hc2 => ?_))
  ·
   refine w1 ((yA_ ?_))
   refine RO_nil (W_ret ⟨trivial, yb, (ResV_tmp1 rfl rfl ?_)⟩)
   exact xbuy
  ·
   refine W_skip (w1 ((yA_ ?_)))
   refine RO_nil (W_ret ⟨trivial, yb, (ResV_tmp1 rfl rfl ?_)⟩)
   exact xbuy
end Go.Kw
