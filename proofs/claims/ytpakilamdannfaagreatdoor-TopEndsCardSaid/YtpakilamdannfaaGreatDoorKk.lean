/- For every position and every list of bytes the law TopEnds returns true and leaves its arguments as they were: along any game of at most 30 moves from a position that may be, how it stands is what the rules say. Condition: the listed variable math/bits.deBruijn64tab holds what the program text lays in it (the card ties that). -/
import Derived.Test.YtpakilamdannfaaGreatDoorKj
set_option linter.all false
set_option linter.unusedVariables false
set_option linter.unusedSimpArgs false
set_option linter.unusedSectionVars false
set_option maxRecDepth 20000
set_option linter.unusedVariables false
namespace Go.Proofs.YtpakilamdannfaaGreatDoor.TopEnds
open Go.ChangeShapes Go.WideShapes Go.ChangeAt Go.RowKit
open Go.Kw (posT TAB)
set_option maxRecDepth 100000 in
theorem contract (H : Type) (enc : TypeId × Value → H) (W : World) (base : Nat) (args : Array Value) (ds gs : List (DataW H)) (before : List MemPlace)
    (hval : ∀ (j : Nat) t v, Tryz.f5.params[j]? = some t → args[j]? = some v → Value.okWide Tryz.prog W .any base t v)
    (hW : DataW.Whole enc Tryz.prog Tryz.f5.params.toList Rows.topEndsSpec.vars false W args.toList ds gs before) (hL : laidMetH Tryz.prog Rows.topEndsRow.laid W) (hS : W.ShapedOpen Tryz.prog) :
    Calls Tryz.prog 5 args W fun e W' => ∃ v, e = .returned v ∧ Rows.topEndsSpec.post enc Tryz.prog Tryz.f5 false true false false W args v W' := by
  have hW' := hW
  obtain ⟨p, q, hA0, hV, rfl, hfz, hnd⟩ := hW
  have hA : DataW.TrodAll enc Tryz.prog W 0 (fun _ => true) true Tryz.f5.params.toList args.toList ds p := hA0
  rw [Tryz.params5] at hA hval
  obtain ⟨v0, vs0, d0, ds0, p0, q0, hargs, rfl, rfl, h0, r0⟩ := trodAll_cons hA
  obtain ⟨v1, vs1, d1, ds1, p1, q1, rfl, rfl, rfl, h1, r1⟩ := trodAll_cons r0
  obtain ⟨rfl, rfl, rfl⟩ := trodAll_nil r1
  obtain rfl : args = #[v0, v1] := by cases args; simp_all
  obtain ⟨rfl, rfl⟩ := trodVars_none hV
  obtain ⟨pp, rfl, hw, hr, rfl, hread⟩ := Kw.open_st (Kw.rd31 3) (hval 0 31 v0 rfl rfl) h0
  obtain ⟨xs, hlist, hbyte, hback⟩ := Kw.open_bytes Tryz.underlying43 Tryz.underlying5 Kw.ce5 (hval 1 43 v1 rfl rfl) h1
  have hp := Kw.POK_of hw hr
  clear hA0
  simp only [List.append_nil, List.nil_append] at hW'
  have hmem : Kw.Mem [Kw.Fact.lst v1 Kw.u8 xs, TAB] W := by
    have h0 := Kw.mem_tab hL hS
    refine ⟨fun f hf => ?_, by simp [Kw.muts, Kw.Fact.mut], fun b hb => by simp [Kw.muts, Kw.Fact.mut]⟩
    rcases List.mem_cons.1 hf with rfl | hf
    · exact hlist
    · exact h0.all f hf
  refine (Kw.c_top_TopEnds pp hp v1 xs [Kw.Fact.lst v1 Kw.u8 xs, TAB] (.tail _ (.head _)) (Kw.hl_lst (.head _)) hbyte W hmem).mono fun e W' ⟨he, hm, hst⟩ => ?_
  subst he
  have hsame : ∀ b, b < W.heap.size → W'.heap[b]? = W.heap[b]? := fun b hb => Kw.heap_same hst rfl hb
  exact ⟨_, rfl, Kw.post_of_kept hW' (fun _ _ _ => trodAll_cons_mk (shut_bool Tryz.underlying4 _) trodAll_mk0) (fun sp hsp => by
      have := trodAll_cons_mk (hread W' 0 sp true) (trodAll_cons_mk (hback W' sp true hsame hsp) trodAll_mk0)
      simp only [List.nil_append, List.append_nil] at this
      exact this) (fun _ => rfl)
    (Kw.kept_of_step hst rfl) (fun b off hb => Kw.frozen_same (hsame b hb)) (ok_one (by kernel_rfl) rfl (okWide_bool_mk Tryz.underlying4 _))⟩
noncomputable def laidWorld (os : Os) : World :=
  { World.holding Tryz.prog os ⟨#[], #[], []⟩ with heap := (World.holding Tryz.prog os ⟨#[], #[], []⟩).heap.modify 0 fun
      | .cells _ t frozen => .cells Kw.tabCells t frozen
      | o => o }
def zArgs : Array Value := #[.agg (Kw.cells posT (Kw.zero posT)).toArray, .slice none 0 0]
theorem laid_met (os : Os) : laidMet Tryz.prog Rows.topEndsRow.laid ((laidWorld os).forCall (fun _ _ => 0) ⟨#[], zArgs, []⟩).memory :=
  laidMet_of_run' 8 (by kernel_rfl) (by kernel_rfl)
def zPos {H : Type} : DataW H := .agg [.lit (.int .u8 0), .agg (List.replicate 64 (.lit (.int .u8 0))), .lit (.int .u64 0), .agg [.agg (List.replicate 6 (.lit (.int .u8 0))), .agg (List.replicate 6 (.lit (.int .u8 0)))], .lit (.int .u8 0),
  .agg [.agg [.lit (.int .i8 0), .lit (.int .i8 0)], .agg [.lit (.int .i8 0), .lit (.int .i8 0)]], .lit (.int .i8 0), .agg [.lit (.int .u8 0), .lit (.int .u8 0)], .lit (.int .i64 0), .lit (.int .i64 0)]
theorem reads (os : Os) {H : Type} (enc : TypeId × Value → H) : ∃ places, DataW.whole enc Tryz.prog ((laidWorld os).forCall (fun _ _ => 0) ⟨#[], zArgs, []⟩).memory Tryz.f5.params.toList Rows.topEndsSpec.vars false zArgs.toList 8 = some ([zPos, .nil], [], places) :=
  ⟨[], by kernel_rfl⟩
set_option maxRecDepth 100000 in
theorem lifted (os : Os) (started : os.Started) (H : Type) (enc : TypeId × Value → H) (F : Stop.Interp) :
    ReturnsInHanded {} Tryz.checked os 5 .any ((OpenSpec.ofChange Rows.topEndsSpec).preRow enc Tryz.prog Tryz.f5 Rows.topEndsRow.domain false Rows.topEndsRow.laid) (((OpenSpec.ofChange Rows.topEndsSpec).at F).post enc Tryz.prog Tryz.f5 false true false false) := by
  obtain ⟨places, hx⟩ := reads os enc
  refine returnsInHanded_of_row (C := Tryz.checked) (s := OpenSpec.ofChange Rows.topEndsSpec) Kw.own started (by kernel_rfl) Tryz.func5
    (witness_row_at (enc := enc) (C := Tryz.checked) false (laidWorld os) zArgs rfl (by kernel_rfl) (by kernel_rfl) (by kernel_rfl)
      (OpenSpec.preRow_of_cond 8 hx (by kernel_rfl) (fun k hk => by cases hk) (by kernel_rfl) (laid_met os))) ?_
  intro W base args ds gs before hval hW _ _ _ hL hS _
  exact contract H enc W base args ds gs before hval hW hL hS
theorem said : Rows.TopEndsSaid :=
  OpenClaim.holds_of_cond 5 Tryz.f5 rfl rfl rfl rfl rfl rfl rfl ⟨rfl, rfl, rfl, rfl, rfl⟩ rfl rfl rfl rfl rfl (by kernel_rfl) Tryz.func5 (by kernel_rfl)
    (of_decide_eq_true (by kernel_rfl)) (by unfold Func.isWrapper; first | (rw [if_pos (by decide +kernel)]; kernel_rfl) | (rw [if_neg (by decide +kernel)]; exact ⟨rfl, rfl⟩))
    (fun os started H enc _ F => by rw [OpenClaim.pre_eq_preRow]; exact lifted os started H enc F)
theorem plain (f : FuncId) (fn : Func) (hf : Tryz.pinned.checked.prog.funcNamed "kibitzer/kibitzertop.TopEnds" = some f) (hfn : Tryz.pinned.checked.prog.funcs[f]? = some fn) :
    true = Tryz.pinned.checked.prog.looks [] ∧ ∀ (j : Nat) t, fn.params[j]? = some t → Tryz.pinned.checked.prog.wantsStandIn t = false := by
  obtain rfl : f = 5 := Option.some.inj ((show Tryz.prog.funcNamed "kibitzer/kibitzertop.TopEnds" = some 5 by kernel_rfl).symm.trans hf) |>.symm
  obtain rfl : fn = Tryz.f5 := (Option.some.inj (Tryz.func5.symm.trans hfn)).symm
  refine ⟨by kernel_rfl, fun j t ht => ?_⟩
  rw [Tryz.params5] at ht
  have h2 : t = 31 ∨ t = 43 := by simpa using Array.mem_of_getElem? ht
  rcases h2 with rfl | rfl
  · exact (show Tryz.prog.wantsStandIn 31 = false by kernel_rfl)
  · exact (show Tryz.prog.wantsStandIn 43 = false by kernel_rfl)
theorem card : Rows.TopEndsCardSaid :=
  Claim7.holds_tied_plain_at .later [] _ _ _ _ said (fun _ h => by cases h) (by kernel_rfl) (fun _ h => by cases h) topEnds_row_tie rfl ⟨rfl, rfl⟩ (by kernel_rfl) rfl plain (by kernel_rfl)
end Go.Proofs.YtpakilamdannfaaGreatDoor.TopEnds
