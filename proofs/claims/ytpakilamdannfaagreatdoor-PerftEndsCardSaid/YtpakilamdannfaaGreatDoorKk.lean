/- For every position and every length the law PerftEnds returns true and leaves its arguments as they were: the counts of ways and of their ends are those of the document. Condition: the listed variable math/bits.deBruijn64tab holds what the program text lays in it (the card ties that). -/
import Derived.Test.YtpakilamdannfaaGreatDoorKj
import Derived.Test.YtpakilamdannfaaGreatDoorCards
import Derived.Test.YtpakilamdannfaaGreatDoorTie
import Derived.WalkKit
import Derived.ProofKit
import Derived.OpenShut
import Derived.Deep.DeepHandedRow
import Derived.Lib.LaidTab
set_option linter.all false
set_option linter.unusedVariables false
set_option linter.unusedSimpArgs false
set_option linter.unusedSectionVars false
set_option maxRecDepth 20000
set_option linter.unusedVariables false
namespace Go.Kw
open Go.Proofs
theorem rdt_st {P : Program} {tid : TypeId} {d : Nat} {fl : Array Field} {fs : List Ty} (hu : P.underlying tid = some (.struct fl)) (hc : P.cellsOf tid = sizes fs) (h : RdF P d fl.toList fs 0) : RdT P (d + 1) tid (.st fs) := by
  have hf : P.fieldsOf tid = fl := by simp [Program.fieldsOf, hu]
  exact ⟨by rw [hf]; exact hu, hc, by rw [hf]; exact h⟩
set_option maxRecDepth 20000
theorem rd5 (d : Nat) : RdT Tryz.prog (d + 1) 5 u8 := Tryz.underlying5
theorem rd3 (d : Nat) : RdT Tryz.prog (d + 1) 3 i64 := Tryz.underlying3
theorem rd23 (d : Nat) : RdT Tryz.prog (d + 1) 23 u64 := Tryz.underlying23
theorem rd26 (d : Nat) : RdT Tryz.prog (d + 1) 26 i8 := Tryz.underlying26
theorem ce5 : Tryz.prog.cellsOf 5 = 1 := by kernel_rfl
theorem ce3 : Tryz.prog.cellsOf 3 = 1 := by kernel_rfl
theorem ce23 : Tryz.prog.cellsOf 23 = 1 := by kernel_rfl
theorem ce26 : Tryz.prog.cellsOf 26 = 1 := by kernel_rfl
theorem ce22 : Tryz.prog.cellsOf 22 = 64 := by kernel_rfl
theorem ce24 : Tryz.prog.cellsOf 24 = 6 := by kernel_rfl
theorem ce25 : Tryz.prog.cellsOf 25 = 12 := by kernel_rfl
theorem ce27 : Tryz.prog.cellsOf 27 = 2 := by kernel_rfl
theorem ce28 : Tryz.prog.cellsOf 28 = 4 := by kernel_rfl
theorem ce29 : Tryz.prog.cellsOf 29 = 2 := by kernel_rfl
theorem ce31 : Tryz.prog.cellsOf 31 = 88 := by kernel_rfl
theorem rd22 (d : Nat) : RdT Tryz.prog (d + 2) 22 (.ar 64 u8) := ⟨5, Tryz.underlying22, ce22, ce5, rd5 d⟩
theorem rd24 (d : Nat) : RdT Tryz.prog (d + 2) 24 (.ar 6 u8) := ⟨5, Tryz.underlying24, ce24, ce5, rd5 d⟩
theorem rd25 (d : Nat) : RdT Tryz.prog (d + 3) 25 (.ar 2 (.ar 6 u8)) := ⟨24, Tryz.underlying25, ce25, ce24, rd24 d⟩
theorem rd27 (d : Nat) : RdT Tryz.prog (d + 2) 27 (.ar 2 i8) := ⟨26, Tryz.underlying27, ce27, ce26, rd26 d⟩
theorem rd28 (d : Nat) : RdT Tryz.prog (d + 3) 28 (.ar 2 (.ar 2 i8)) := ⟨27, Tryz.underlying28, ce28, ce27, rd27 d⟩
theorem rd29 (d : Nat) : RdT Tryz.prog (d + 2) 29 (.ar 2 u8) := ⟨5, Tryz.underlying29, ce29, ce5, rd5 d⟩
theorem rd31 (d : Nat) : RdT Tryz.prog (d + 4) 31 posT :=
  rdt_st Tryz.underlying31 ce31 ⟨rfl, ce5, rd5 (d + 2), rfl, ce22, rd22 (d + 1), rfl, ce23, rd23 (d + 2), rfl, ce25, rd25 d, rfl, ce5, rd5 (d + 2), rfl, ce28, rd28 d, rfl, ce26, rd26 (d + 2), rfl, ce29, rd29 (d + 1), rfl, ce3, rd3 (d + 2), rfl, ce3, rd3 (d + 2), trivial⟩
theorem u8_of {n : Int} (h : inR u8 n) : 0 ≤ n ∧ n ≤ 255 := by
  have h' : (Lit.int .u8 n).wf = true := h
  simpa [Lit.wf, IntKind.min, IntKind.max, IntKind.signed, IntKind.bits] using h'
theorem i8_of {n : Int} (h : inR i8 n) : -128 ≤ n ∧ n ≤ 127 := by
  have h' : (Lit.int .i8 n).wf = true := h
  simpa [Lit.wf, IntKind.min, IntKind.max, IntKind.signed, IntKind.bits] using h'
theorem i64_of {n : Int} (h : inR i64 n) : -9223372036854775808 ≤ n ∧ n ≤ 9223372036854775807 := by
  have h' : (Lit.int .i64 n).wf = true := h
  simpa [Lit.wf, IntKind.min, IntKind.max, IntKind.signed, IntKind.bits] using h'
theorem row_of {a b : Int} (ha : a ≤ 0) (hb : 0 ≤ b) (l : List Int) (h : ∀ x ∈ l, a ≤ x ∧ x ≤ b) (i : Nat) : a ≤ l.getD i 0 ∧ l.getD i 0 ≤ b := by
  rw [List.getD_eq_getElem?_getD]
  cases e : l[i]? with
  | none => exact ⟨ha, hb⟩
  | some x => exact h x (List.mem_of_getElem? e)
theorem row2_of {a b : Int} (ha : a ≤ 0) (hb : 0 ≤ b) (l : List (List Int)) (h : ∀ r ∈ l, ∀ x ∈ r, a ≤ x ∧ x ≤ b) (c i : Nat) : a ≤ (l.getD c []).getD i 0 ∧ (l.getD c []).getD i 0 ≤ b := by
  refine row_of ha hb _ (fun x hx => ?_) i
  rw [List.getD_eq_getElem?_getD] at hx
  cases e : l[c]? with
  | none => rw [e] at hx; cases hx
  | some r => rw [e] at hx; exact h r (List.mem_of_getElem? e) x hx
theorem POK_of {p : Pos} (hw : wf posT p) (h : inR posT p) : POK p := by
  obtain ⟨h1, h2, h3, h4, h5, h6, h7, h8, h9, h10, _⟩ := h
  exact ⟨hw, fun i => row_of (by decide) (by decide) _ (fun x hx => u8_of (h2 x hx)) i, u8_of h1, u8_of h5, i8_of h7, i64_of h9, i64_of h10,
    fun c k => row2_of (by decide) (by decide) _ (fun r hr x hx => u8_of (h4 r hr x hx)) c k, fun c k => row2_of (by decide) (by decide) _ (fun r hr x hx => i8_of (h6 r hr x hx)) c k,
    fun c => row_of (by decide) (by decide) _ (fun x hx => u8_of (h8 x hx)) c⟩
theorem kept_of_step {M M' : List Fact} {w w' : World} (h : Step M w M' w') (hm : muts M = []) (may : MemPlace → Prop) : w.keptBut w' may := by
  refine ⟨h.os, h.output, fun i hi => ?_⟩
  have e := h.same i hi (by rw [hm]; simp)
  rw [e]
  cases hx : w.heap[i]? with
  | none => trivial
  | some o => cases o <;> simp
section
variable {H : Type} {enc : TypeId × Value → H} {P : Program}
/-- No place is read: nothing is asked of what is frozen. -/
theorem post_of_flat {f : Func} {s : ChangeSpec} {apart fresh handsOn again : Bool} {W W' : World} {args : Array Value} {v : Value} {ds gs : List (DataW H)}
    (hW : DataW.Whole enc P f.params.toList s.vars apart W args.toList ds gs [])
    (hres : ∀ (b : Nat) (sp : Nat → Bool) (hd : Bool), DataW.TrodAll enc P W' b sp hd f.resultTypes.toList (v.resultList f.resultTypes.size) (s.fn H (ds ++ gs)).results [])
    (hargs : ∀ sp : Nat → Bool, DataW.TrodAll enc P W' 0 sp true f.params.toList args.toList (s.fn H (ds ++ gs)).args [])
    (hvars : ∀ sp : Nat → Bool, DataW.TrodVars enc P W' sp s.vars (s.fn H (ds ++ gs)).vars [])
    (hk : ∀ may, W.keptBut W' may)
    (hok : ∀ (j : Nat) (t : TypeId) (r : Value), f.resultTypes[j]? = some t → (v.resultList f.resultTypes.size)[j]? = some r → Value.okWide P W' .any 0 t r) :
    s.post enc P f apart fresh handsOn again W args v W' := by
  refine ⟨ds, gs, [], [], [], [], hW, hres _ _ _, hargs _, hvars _, hk _, fun _ => ⟨hok, _, _, [], ⟨[], [], Go.ChangeShapes.trodAll_append (hargs _) (hres _ _ _), hvars _, rfl, ?_, ?_⟩, ?_⟩⟩
  · intro b off hp; cases hp
  · intro _; exact List.nodup_nil
  · intro p hp _; cases hp
end
theorem own : ownKnob Tryz.prog.godebug = none := by kernel_rfl
theorem gTab : Tryz.prog.globalNamed "math/bits.deBruijn64tab" = some 0 := by kernel_rfl
theorem gTabType : (Tryz.prog.globals[0]?).map (·.type) = some 22 := by kernel_rfl
def tabCells : Array Value := (cells (.ar 64 u8) DB).toArray
theorem table {W : World} (h : laidMetH Tryz.prog Proofs.YtpakilamdannfaaGreatDoor.Rows.perftEndsRow.laid W) : Lib.TabIs Tryz.prog W "math/bits.deBruijn64tab" .u8 DB :=
  Lib.tabIs_of_head (rest := []) gTab gTabType Tryz.underlying22 Tryz.underlying5 ce5 ce22 h
theorem begin0 : ((begin Tryz.prog (fun _ _ => 0) default).world.heap[0]?).bind Obj.row? = some (Array.replicate 64 (.int .u8 0), 22) := by kernel_rfl
theorem glob0 : 0 < Tryz.prog.globals.size := of_decide_eq_true (by kernel_rfl)
theorem mem_tab {W : World} (h : laidMetH Tryz.prog Proofs.YtpakilamdannfaaGreatDoor.Rows.perftEndsRow.laid W) (hs : W.ShapedOpen Tryz.prog) : Mem [TAB] W := by
  obtain ⟨cs, h1, -, -⟩ := hs.1 0 _ 22 glob0 begin0
  have h2 := table h
  unfold Lib.TabIs World.var? at h2
  rw [gTab] at h2
  simp only [Option.bind_some, h1] at h2
  have e : cs = tabCells := by
    have := Option.some.inj h2
    rw [this]; rfl
  subst e
  refine ⟨fun f hf => ?_, by simp [muts, Fact.mut], fun b hb => by simp [muts, Fact.mut]⟩
  rw [List.mem_singleton.1 hf]
  exact ⟨⟨_, h1⟩, rfl, fun _ _ => trivial⟩
end Go.Kw
namespace Go.Proofs.YtpakilamdannfaaGreatDoor.PerftEnds
open Go.ChangeShapes Go.WideShapes Go.ChangeAt Go.RowKit
open Go.Kw (posT TAB)
set_option maxRecDepth 100000 in
theorem contract (H : Type) (enc : TypeId × Value → H) (W : World) (base : Nat) (args : Array Value) (ds gs : List (DataW H)) (before : List MemPlace)
    (hval : ∀ (j : Nat) t v, Tryz.f3.params[j]? = some t → args[j]? = some v → Value.okWide Tryz.prog W .any base t v)
    (hW : DataW.Whole enc Tryz.prog Tryz.f3.params.toList Rows.perftEndsSpec.vars false W args.toList ds gs before) (hL : laidMetH Tryz.prog Rows.perftEndsRow.laid W) (hS : W.ShapedOpen Tryz.prog) :
    Calls Tryz.prog 3 args W fun e W' => ∃ v, e = .returned v ∧ Rows.perftEndsSpec.post enc Tryz.prog Tryz.f3 false true false false W args v W' := by
  have hW' := hW
  obtain ⟨p, q, hA0, hV, rfl, hfz, hnd⟩ := hW
  have hA : DataW.TrodAll enc Tryz.prog W 0 (fun _ => true) true Tryz.f3.params.toList args.toList ds p := hA0
  rw [Tryz.params3] at hA hval
  obtain ⟨v0, vs0, d0, ds0, p0, q0, hargs, rfl, rfl, h0, r0⟩ := trodAll_cons hA
  obtain ⟨v1, vs1, d1, ds1, p1, q1, rfl, rfl, rfl, h1, r1⟩ := trodAll_cons r0
  obtain ⟨rfl, rfl, rfl⟩ := trodAll_nil r1
  obtain rfl : args = #[v0, v1] := by cases args; simp_all
  obtain ⟨rfl, rfl⟩ := trodVars_none hV
  obtain ⟨pp, rfl, hw, hr, rfl, hread⟩ := Kw.open_st (Kw.rd31 3) (hval 0 31 v0 rfl rfl) h0
  obtain ⟨n, rfl, rfl, rfl, hn⟩ := open_int Tryz.underlying3 (hval 1 3 v1 rfl rfl) h1
  have hp := Kw.POK_of hw hr
  have hd : -9223372036854775808 ≤ n := by
    have := (Kw.i64_of (n := n) hn).1; exact this
  clear hA0
  simp only [List.append_nil] at hW'
  refine (Kw.c_law22_PerftEnds pp hp n [TAB] (List.mem_singleton.2 rfl) hd W (Kw.mem_tab hL hS)).mono fun e W' ⟨he, hm, hst⟩ => ?_
  subst he
  exact ⟨_, rfl, Kw.post_of_flat hW' (fun _ _ _ => trodAll_cons_mk (shut_bool Tryz.underlying4 _) trodAll_mk0) (fun _ => trodAll_cons_mk (hread _ _ _ _) (trodAll_cons_mk (shut_int Tryz.underlying3 hn) trodAll_mk0)) (fun _ => rfl)
    (Kw.kept_of_step hst rfl) (ok_one (by kernel_rfl) rfl (okWide_bool_mk Tryz.underlying4 _))⟩
noncomputable def laidWorld (os : Os) : World :=
  { World.holding Tryz.prog os ⟨#[], #[], []⟩ with heap := (World.holding Tryz.prog os ⟨#[], #[], []⟩).heap.modify 0 fun
      | .cells _ t frozen => .cells Kw.tabCells t frozen
      | o => o }
def zArgs : Array Value := #[.agg (Kw.cells posT (Kw.zero posT)).toArray, .int .i64 0]
theorem laid_met (os : Os) : laidMet Tryz.prog Rows.perftEndsRow.laid ((laidWorld os).forCall (fun _ _ => 0) ⟨#[], zArgs, []⟩).memory :=
  laidMet_of_run' 8 (by kernel_rfl) (by kernel_rfl)
def zPos {H : Type} : DataW H := .agg [.lit (.int .u8 0), .agg (List.replicate 64 (.lit (.int .u8 0))), .lit (.int .u64 0), .agg [.agg (List.replicate 6 (.lit (.int .u8 0))), .agg (List.replicate 6 (.lit (.int .u8 0)))], .lit (.int .u8 0),
  .agg [.agg [.lit (.int .i8 0), .lit (.int .i8 0)], .agg [.lit (.int .i8 0), .lit (.int .i8 0)]], .lit (.int .i8 0), .agg [.lit (.int .u8 0), .lit (.int .u8 0)], .lit (.int .i64 0), .lit (.int .i64 0)]
theorem reads (os : Os) {H : Type} (enc : TypeId × Value → H) : ∃ places, DataW.whole enc Tryz.prog ((laidWorld os).forCall (fun _ _ => 0) ⟨#[], zArgs, []⟩).memory Tryz.f3.params.toList Rows.perftEndsSpec.vars false zArgs.toList 8 = some ([zPos, .lit (.int .i64 0)], [], places) :=
  ⟨[], by kernel_rfl⟩
set_option maxRecDepth 100000 in
theorem lifted (os : Os) (started : os.Started) (H : Type) (enc : TypeId × Value → H) (F : Stop.Interp) :
    ReturnsInHanded {} Tryz.checked os 3 .any ((OpenSpec.ofChange Rows.perftEndsSpec).preRow enc Tryz.prog Tryz.f3 Rows.perftEndsRow.domain false Rows.perftEndsRow.laid) (((OpenSpec.ofChange Rows.perftEndsSpec).at F).post enc Tryz.prog Tryz.f3 false true false false) := by
  obtain ⟨places, hx⟩ := reads os enc
  refine returnsInHanded_of_row (C := Tryz.checked) (s := OpenSpec.ofChange Rows.perftEndsSpec) Kw.own started (by kernel_rfl) Tryz.func3
    (witness_row_at (enc := enc) (C := Tryz.checked) false (laidWorld os) zArgs rfl (by kernel_rfl) (by kernel_rfl) (by kernel_rfl)
      (OpenSpec.preRow_of_cond 8 hx (by kernel_rfl) (fun k hk => by cases hk) (by kernel_rfl) (laid_met os))) ?_
  intro W base args ds gs before hval hW _ _ _ hL hS _
  exact contract H enc W base args ds gs before hval hW hL hS
theorem said : Rows.PerftEndsSaid :=
  OpenClaim.holds_of_cond 3 Tryz.f3 rfl rfl rfl rfl rfl rfl rfl ⟨rfl, rfl, rfl, rfl, rfl⟩ rfl rfl rfl rfl rfl (by kernel_rfl) Tryz.func3 (by kernel_rfl)
    (of_decide_eq_true (by kernel_rfl)) (by unfold Func.isWrapper; first | (rw [if_pos (by decide +kernel)]; kernel_rfl) | (rw [if_neg (by decide +kernel)]; exact ⟨rfl, rfl⟩))
    (fun os started H enc _ F => by rw [OpenClaim.pre_eq_preRow]; exact lifted os started H enc F)
theorem plain (f : FuncId) (fn : Func) (hf : Tryz.pinned.checked.prog.funcNamed "kibitzer/kibitzerlaw22.PerftEnds" = some f) (hfn : Tryz.pinned.checked.prog.funcs[f]? = some fn) :
    true = Tryz.pinned.checked.prog.looks [] ∧ ∀ (j : Nat) t, fn.params[j]? = some t → Tryz.pinned.checked.prog.wantsStandIn t = false := by
  obtain rfl : f = 3 := Option.some.inj ((show Tryz.prog.funcNamed "kibitzer/kibitzerlaw22.PerftEnds" = some 3 by kernel_rfl).symm.trans hf) |>.symm
  obtain rfl : fn = Tryz.f3 := (Option.some.inj (Tryz.func3.symm.trans hfn)).symm
  refine ⟨by kernel_rfl, fun j t ht => ?_⟩
  rw [Tryz.params3] at ht
  have h2 : t = 31 ∨ t = 3 := by simpa using Array.mem_of_getElem? ht
  rcases h2 with rfl | rfl
  · exact (show Tryz.prog.wantsStandIn 31 = false by kernel_rfl)
  · exact (show Tryz.prog.wantsStandIn 3 = false by kernel_rfl)
theorem card : Rows.PerftEndsCardSaid :=
  Claim7.holds_tied_plain_at .later [] _ _ _ _ said (fun _ h => by cases h) (by kernel_rfl) (fun _ h => by cases h) perftEnds_row_tie rfl ⟨rfl, rfl⟩ (by kernel_rfl) rfl plain (by kernel_rfl)
end Go.Proofs.YtpakilamdannfaaGreatDoor.PerftEnds
