/- A part of the proof: KwG, KwX, KwX2, KwX3, KwX4, KwX5, KwX6. -/
import Derived.Test.YtpakilamdannfaaGreatDoorKa
import Derived.RangeFuncRecord
import Derived.RangeFuncOwn
import Derived.OrdersIn
import Derived.Laws.StructEq
import Derived.ChangeKeysEq
import Derived.Scope
import Derived.Lib.AppendZeros
import Derived.Laws.Cover3
import Derived.Laws.Pointers
import Derived.RecoverIn
set_option linter.all false
set_option linter.unusedVariables false
set_option linter.unusedSimpArgs false
set_option linter.unusedSectionVars false
set_option maxRecDepth 20000
set_option linter.unusedVariables false
namespace Go.Kw

theorem Pure.frame {P : Program} {f : FuncId} {args : List Value} {A M : List Fact} {v : Value} (h : Pure P f args M v) : Pure P f args (A ++ M) v := fun w hm =>
  (h w (hm.sub (List.sublist_append_right _ _))).mono fun e w' ⟨h1, h2, h3⟩ => ⟨h1, hm.frame h2 h3, h3.frame⟩
theorem Con.frame {P : Program} {f : FuncId} {args : List Value} {A M : List Fact} {R : Value → List Fact → Prop} (h : Con P f args M R) : Con P f args (A ++ M) (fun v M' => ∃ M1, M' = A ++ M1 ∧ R v M1) := fun w hm =>
  (h w (hm.sub (List.sublist_append_right _ _))).mono fun e w' ⟨v, M1, h1, h2, h3, h4⟩ => ⟨v, A ++ M1, h1, hm.frame h2 h3, h3.frame, M1, rfl, h4⟩

/-! ### Code under a fence that is wide, in a round or not, with deferred calls that wait -/
def fen (r : Option Nat) : Fence := { fn := fun _ => True, depth := none, alive := false, round := r }
def KnowsD (ds : List Deferred) (n : Nat) (T : Tm) (a : Act) : Prop := Knows n T { a with defers := [] } ∧ a.defers = ds
abbrev GPost := Exit → List Deferred → Tm → List Fact → Prop

section
variable {P : Program} {r : Option Nat} {n : Nat} {T : Tm} {M : List Fact} {a : Act} {ds : List Deferred}

theorem KnowsD.put (hk : KnowsD ds n T a) {d : Nat} (hd : d < n) (v : Value) : KnowsD ds n ((d, v) :: T) (a.put (some d) v) :=
  ⟨hk.1.put hd v, hk.2⟩
theorem KnowsD.weak {T1 : Tm} (hk : KnowsD ds n T a) (h : Says T T1) : KnowsD ds n T1 a := ⟨hk.1.weak h, hk.2⟩
theorem KnowsD.eval (hk : KnowsD ds n T a) {x : Operand} {v : Value} (h : look T x = some v) : a.eval x = v := by
  have := hk.1.eval h
  rwa [eval_defers] at this

def G (P : Program) (r : Option Nat) (n : Nat) (c : Code) (Q : GPost) (ds : List Deferred) (T : Tm) (M : List Fact) : Prop :=
  ∀ a w, KnowsD ds n T a → Mem M w → c.wpIn (fen r) 0 P (fun e a' w' => ∃ ds' T' M', KnowsD ds' n T' a' ∧ Mem M' w' ∧ Step M w M' w' ∧ Q e ds' T' M') a w

def thenG (next : List Deferred → Tm → List Fact → Prop) (Q : GPost) : GPost
  | .normal => next
  | e => Q e
def blockG (id : Nat) (Q : GPost) : GPost
  | .exit i => bif Nat.beq i id then Q .normal else Q (.exit i)
  | e => Q e

variable {Q : GPost} {x y c : Code}
theorem G_perm {M1 : List Fact} (hs : List.Perm M1 M) (h : G P r n c Q ds T M1) : G P r n c Q ds T M := fun a w hk hm =>
  wpIn_mono (h a w hk (hm.perm hs)) fun e a' w' ⟨ds', T', M', h1, h2, h3, h4⟩ => ⟨ds', T', M', h1, h2, (Step.perm hs).trans h3, h4⟩
/-- What is beside lies as it lay. -/
theorem G_frame {A : List Fact} (h : G P r n c Q ds T M) : G P r n c (fun e ds T M' => ∃ M1, M' = A ++ M1 ∧ Q e ds T M1) ds T (A ++ M) := fun a w hk hm =>
  wpIn_mono (h a w hk (hm.sub (List.sublist_append_right _ _))) fun e a' w' ⟨ds', T', M', h1, h2, h3, h4⟩ => ⟨ds', T', A ++ M', h1, hm.frame h2 h3, h3.frame, M', rfl, h4⟩

theorem G_seq (h : G P r n x (thenG (G P r n y Q) Q) ds T M) : G P r n (.seq x y) Q ds T M := fun a w hk hm =>
  wpIn_seq (wpIn_mono (h a w hk hm) fun e a' w' ⟨ds', T', M', h1, h2, h3, h4⟩ => by
    cases e with
    | normal => exact wpIn_mono (h4 a' w' h1 h2) fun e a'' w'' ⟨ds'', T'', M'', g1, g2, g3, g4⟩ => ⟨ds'', T'', M'', g1, g2, h3.trans g3, g4⟩
    | _ => exact ⟨ds', T', M', h1, h2, h3, h4⟩)
theorem G_cond {o : Operand} {b : Bool} (hc : look T o = some (.bool b)) (ht : b = true → G P r n x Q ds T M) (hf : b = false → G P r n y Q ds T M) :
    G P r n (.cond o x y) Q ds T M := fun a w hk hm =>
  wpIn_cond_split (hk.eval hc) (fun e => ht e a w hk hm) (fun e => hf e a w hk hm)
theorem G_condt {o : Operand} (hc : look T o = some (.bool true)) (ht : G P r n x Q ds T M) : G P r n (.cond o x y) Q ds T M := fun a w hk hm =>
  wpIn_cond_true (hk.eval hc) (ht a w hk hm)
theorem G_condf {o : Operand} (hc : look T o = some (.bool false)) (hf : G P r n y Q ds T M) : G P r n (.cond o x y) Q ds T M := fun a w hk hm =>
  wpIn_cond_false (hk.eval hc) (hf a w hk hm)
theorem G_skip (h : Q .normal ds T M) : G P r n .skip Q ds T M := fun a w hk hm => wpIn_skip ⟨ds, T, M, hk, hm, Step.refl _ _, h⟩
theorem G_exit {id : Nat} (h : Q (.exit id) ds T M) : G P r n (.exit id) Q ds T M := fun a w hk hm => wpIn_exit ⟨ds, T, M, hk, hm, Step.refl _ _, h⟩
theorem G_ret (h : Q .ret ds T M) : G P r n .ret Q ds T M := fun a w hk hm => wpIn_ret ⟨ds, T, M, hk, hm, Step.refl _ _, h⟩
theorem G_block {id : Nat} (h : G P r n c (blockG id Q) ds T M) : G P r n (.block id c) Q ds T M := fun a w hk hm =>
  wpIn_block (wpIn_mono (h a w hk hm) fun e a' w' ⟨ds', T', M', h1, h2, h3, h4⟩ => by
    cases e with
    | exit i =>
      simp only [Exit.inBlock]
      by_cases e : i = id
      · subst e
        rw [if_pos rfl]
        refine ⟨ds', T', M', h1, h2, h3, ?_⟩
        have h4' : (bif Nat.beq i i then Q .normal else Q (.exit i)) ds' T' M' := h4
        rw [Nat.beq_refl] at h4'
        exact h4'
      · rw [if_neg e]
        refine ⟨ds', T', M', h1, h2, h3, ?_⟩
        have h4' : (bif Nat.beq i id then Q .normal else Q (.exit i)) ds' T' M' := h4
        have hb : Nat.beq i id = false := by
          rw [Bool.eq_false_iff]; intro h; exact e (Nat.eq_of_beq_eq_true h)
        rw [hb] at h4'
        exact h4'
    | _ => exact ⟨ds', T', M', h1, h2, h3, h4⟩)

theorem wpIn_loop_rel {F : Fence} {m : Nat} {σ : Type} {Q : Exit → Act → World → Prop} {w : World} (I : σ → Act → World → Prop) (μ : σ → Nat) (s0 : σ) (h0 : I s0 a w)
    (round : ∀ s a w, I s a w → c.wpIn F m P (Exit.then (fun a' w' => ∃ s', μ s' < μ s ∧ I s' a' w') Q) a w) : (Code.loop c).wpIn F m P Q a w := by
  intro b k cs hro hb hr
  have key : ∀ j s a w, μ s = j → I s a w →
      ∃ e a' w', Q e a' w' ∧ ArrivesIn (Machine.fenced P F) P (lone (b.atR a (.code c :: .inLoop c :: k)) cs w) b k cs e a' w' := by
    intro j
    induction j using Nat.strongRecOn with
    | _ j ih =>
      intro s a w hn hI
      obtain ⟨e, a₁, w₁, hq, harr⟩ := round s a w hI b (.inLoop c :: k) cs hro hb hr
      cases e with
      | normal =>
        obtain ⟨s', hlt, hI₁⟩ := hq
        obtain ⟨e₂, a₂, w₂, hq₂, harr₂⟩ := ih (μ s') (hn ▸ hlt) s' a₁ w₁ rfl hI₁
        exact ⟨e₂, a₂, w₂, hq₂, .of_steps (StepsIn.trans harr (.one (fenced_calm hb hr rfl) stepR_inLoop)) harr₂⟩
      | exit id => exact ⟨_, a₁, w₁, hq, .pass (x := .inLoop c) rfl (fun _ _ => .inl (by simp)) harr⟩
      | goto l => exact ⟨_, a₁, w₁, hq, .pass (x := .inLoop c) rfl (fun _ _ => .inl (by simp)) harr⟩
      | ret => exact ⟨_, a₁, w₁, hq, .pass (x := .inLoop c) rfl (fun _ _ => .inl (by simp)) harr⟩
      | panic ch => exact ⟨_, a₁, w₁, hq, .pass (x := .inLoop c) rfl (fun _ _ => .inl (by simp)) harr⟩
      | outgrown => exact ⟨_, a₁, w₁, hq, .pass (x := .inLoop c) rfl (fun _ _ => .inl (by simp)) harr⟩
  obtain ⟨e, a', w', hq, harr⟩ := key _ s0 a w rfl h0
  exact ⟨e, a', w', hq, .of_steps (.one (fenced_calm hb hr rfl) stepR_loop) harr⟩

theorem G_loop {σ : Type} (I : σ → Prop) (Ts : σ → Tm) (Ms : σ → List Fact) (μ : σ → Nat) (s0 : σ) (h0 : I s0) (hT : Says T (Ts s0)) (hM : List.Sublist (Ms s0) M)
    (round : ∀ s, I s → G P r n c (thenG (fun ds' T' M' => ds' = ds ∧ ∃ s', μ s' < μ s ∧ I s' ∧ Says T' (Ts s') ∧ List.Sublist (Ms s') M') Q) ds (Ts s) (Ms s)) : G P r n (.loop c) Q ds T M := fun a w hk hm =>
  wpIn_loop_rel (fun s a' w' => I s ∧ KnowsD ds n (Ts s) a' ∧ Mem (Ms s) w' ∧ Step M w (Ms s) w') μ s0 ⟨h0, hk.weak hT, hm.sub hM, Step.sub hM⟩
    fun s a' w' ⟨hI, hk', hm', hs'⟩ => wpIn_mono (round s hI a' w' hk' hm') fun e a'' w'' ⟨ds', T', M', g1, g2, g3, g4⟩ => by
      cases e with
      | normal =>
        obtain ⟨rfl, s', k1, k2, k3, k4⟩ := g4
        exact ⟨s', k1, k2, g1.weak k3, g2.sub k4, (hs'.trans g3).trans (Step.sub k4)⟩
      | _ => exact ⟨ds', T', M', g1, g2, hs'.trans g3, g4⟩

theorem Mem.dup {f : Fact} {w : World} (hf : f ∈ M) (hn : f.mut = []) (hm : Mem M w) : Mem (f :: M) w := by
  refine ⟨fun g hg => ?_, ?_, fun b hb hn' => ?_⟩
  · rcases List.mem_cons.1 hg with rfl | hg
    · exact hm.all _ hf
    · exact hm.all g hg
  · show (f.mut ++ muts M).Nodup
    rw [hn]; exact hm.nodup
  · have hn2 : b ∈ muts M := by
      have : b ∈ f.mut ++ muts M := hn'
      rw [hn] at this; exact this
    have hb' : b ∈ f.imm ++ imms M := hb
    rcases List.mem_append.1 hb' with hb' | hb'
    · exact hm.disj b (mem_imms.2 ⟨f, hf, hb'⟩) hn2
    · exact hm.disj b hb' hn2
theorem Step.dup {f : Fact} {w : World} (hf : f ∈ M) (hn : f.mut = []) : Step M w (f :: M) w := by
  refine ⟨Nat.le_refl _, fun _ _ _ => rfl, fun b hb => .inl ?_, fun b hb => .inr (.inl ?_), rfl, rfl, rfl⟩
  · have : b ∈ f.mut ++ muts M := hb
    rw [hn] at this; exact this
  · have hb' : b ∈ f.imm ++ imms M := hb
    rcases List.mem_append.1 hb' with hb' | hb'
    · exact mem_imms.2 ⟨f, hf, hb'⟩
    · exact hb'
theorem G_dup {f : Fact} (hf : f ∈ M) (hn : f.mut = []) (h : G P r n c Q ds T (f :: M)) : G P r n c Q ds T M := fun a w hk hm =>
  wpIn_mono (h a w hk (hm.dup hf hn)) fun e a' w' ⟨ds', T', M', h1, h2, h3, h4⟩ => ⟨ds', T', M', h1, h2, (Step.dup hf hn).trans h3, h4⟩
theorem G_row (e : Nat) (t : Ty) (h : G P r n c Q ds T (.row (.slice none 0 0) e t [] :: M)) : G P r n c Q ds T M := fun a w hk hm => by
  have h1 : Mem (.row (.slice none 0 0) e t [] :: M) w := hm.cons (Nat.le_refl _) (fun _ _ => rfl) ⟨by simp, .inl ⟨rfl, rfl⟩⟩ (by simp [Fact.mut, ownL, Value.ownBlock]) (by simp [Fact.mut, ownL, Value.ownBlock]) (by simp [Fact.imm])
  have h2 : Step M w (.row (.slice none 0 0) e t [] :: M) w := Step.cons (Nat.le_refl _) (fun _ _ => rfl) (by simp [Fact.mut, ownL, Value.ownBlock]) (by simp [Fact.imm]) rfl rfl rfl
  exact wpIn_mono (h a w hk h1) fun e a' w' ⟨ds', T', M', h1, h3, h4, h5⟩ => ⟨ds', T', M', h1, h3, h2.trans h4, h5⟩

/-! ### Regions -/
def isDefer (o : Oper) : Bool := match o.op with | .defer _ => true | _ => false
theorem semAt_of {o : Oper} (h : isDefer o = false) (r : Option Nat) (ρ : Operand → Value) : o.semAt r ρ = execOp ρ o :=
  Oper.semAt_eq r ρ o fun c e => by unfold isDefer at h; rw [e] at h; cases h

def plus (ds : List Deferred) (a : Act) : Act := { a with defers := a.defers ++ ds }
theorem plus_put (a : Act) (ds : List Deferred) (x : Option Tmp) (v : Value) : (plus ds a).put x v = plus ds (a.put x v) := by
  cases x <;> rfl
theorem plus_eval (a : Act) (ds : List Deferred) : (plus ds a).eval = a.eval := eval_defers _ _
theorem KnowsD.of (hk : KnowsD ds n T a) : ∃ a0, Knows n T a0 ∧ a = plus ds a0 := ⟨{ a with defers := [] }, hk.1, by rw [← hk.2]; rfl⟩
theorem KnowsD.mk' {a0 : Act} (hk : Knows n T a0) : KnowsD ds n T (plus ds a0) := by
  refine ⟨⟨hk.1, rfl, hk.2.2⟩, ?_⟩
  show a0.defers ++ ds = ds
  rw [hk.2.1]; rfl

theorem uponIn_of {o : Oper} {a : Act} {next nextI : Act → World → Prop} {Qa Q' : Exit → Act → World → Prop} (hn : ∀ a w, next a w → nextI (plus ds a) w) (hp : ∀ ch a w, ¬ Qa (.panic ch) a w) (hl : ¬ LetsOut Qa) (q : Result Next)
    (h : o.upon P a next Qa q) : o.uponIn (fen r) 0 P (plus ds a) nextI Q' q := by
  cases q with
  | ok x w' =>
    cases x <;> simp only [Oper.upon] at h <;> simp only [Oper.uponIn]
    case value v => rw [plus_put]; exact hn _ _ h
    case skip => rw [plus_put]; exact hn _ _ h
    case defer d =>
      have e : ({ plus ds a with defers := d :: (plus ds a).defers } : Act).put o.dst undef = plus ds (({ a with defers := d :: a.defers } : Act).put o.dst undef) := by
        rw [← plus_put]; rfl
      rw [e]; exact hn _ _ h
    case enter f args =>
      refine ⟨fun h => (by cases h), ?_⟩
      refine CallsIn.mono (F := fen r) (n := 0) (show CallsIn (fen r) 0 P f args w' _ from callsIn_wide.2 h) fun e w'' he => ?_
      cases e with
      | returned v =>
        show nextI ((plus ds a).put o.dst v) w''
        rw [plus_put]; exact hn _ _ he
      | panicked ch => exact (hp _ _ _ he).elim
      | outgrown => exact (hl he).elim
    case row row args =>
      refine ⟨fun h => (by cases h), fun c cs _ => ?_⟩
      obtain ⟨v, w2, hr, hs⟩ := h c cs
      exact ⟨v, w2, by show nextI ((plus ds a).put o.dst v) w2; rw [plus_put]; exact hn _ _ hr, stepsIn_wide.2 hs⟩
  | halt x w' =>
    cases x <;> simp only [Oper.upon] at h
    exact (hp _ _ _ h).elim

/-- An operation as it goes in a frame without deferred calls goes in any frame. -/
theorem wpIn_of_wp {o : Oper} {a : Act} {w : World} {next nextI : Act → World → Prop} {Qa Q' : Exit → Act → World → Prop} (hd : isDefer o = false) (hn : ∀ a w, next a w → nextI (plus ds a) w) (hp : ∀ ch a w, ¬ Qa (.panic ch) a w) (hl : ¬ LetsOut Qa)
    (h : o.wp P a w next Qa) : o.wpIn (fen r) 0 P (plus ds a) w nextI Q' := by
  refine ⟨fun _ _ => trivial, ?_⟩
  unfold Oper.wp at h
  rw [semAt_of hd, plus_eval]
  exact uponIn_of hn hp hl _ h

def OpG (P : Program) (r : Option Nat) (n : Nat) (ds : List Deferred) (o : Oper) (T : Tm) (M : List Fact) (R : Value → List Fact → Prop) : Prop :=
  ∀ a w, KnowsD ds n T a → Mem M w → ∀ (next : Act → World → Prop) (Q' : Exit → Act → World → Prop),
    (∀ v M' w', Mem M' w' → Step M w M' w' → R v M' → next (a.put o.dst v) w') → o.wpIn (fen r) 0 P a w next Q'
theorem OpG_of_L {o : Oper} {R : Value → List Fact → Prop} (hd : isDefer o = false) (h : OpL P n o T M R) : OpG P r n ds o T M R := fun a w hk hm next Q' hn => by
  obtain ⟨a0, hk0, rfl⟩ := hk.of
  refine wpIn_of_wp (next := fun a w => next (plus ds a) w) (Qa := fun _ _ _ => False) hd (fun _ _ h => h) (fun _ _ _ h => h) (fun ⟨_, _, h⟩ => h) (h _ w hk0 hm _ _ fun v M' w' h1 h2 h3 => ?_)
  rw [← plus_put]
  exact hn v M' w' h1 h2 h3

variable {ops : Array Oper} {l rest : List Oper} {o : Oper} {d : Nat} {v : Value} {M0 : List Fact} {w0 : World} {R : Tm → List Fact → Prop}
def GO (P : Program) (r : Option Nat) (n : Nat) (ds : List Deferred) (ops : Array Oper) (M0 : List Fact) (w0 : World) (l : List Oper) (Q : Tm → List Fact → Prop) (T : Tm) (M : List Fact) : Prop :=
  ∀ a w, KnowsD ds n T a → Mem M w → Step M0 w0 M w →
    wpListIn (fen r) 0 P ops (fun e a' w' => ∃ T' M', KnowsD ds n T' a' ∧ Mem M' w' ∧ Step M0 w0 M' w' ∧ e = .normal ∧ Q T' M') l a w

theorem GO_nil (h : R T M) : GO P r n ds ops M0 w0 [] R T M := fun a w hk hm hs => ⟨T, M, hk, hm, hs, rfl, h⟩
theorem GO_g_ (hg : o.guard = none) (hn : dstOK n o.dst) (h : OpG P r n ds o T M (fun v M' => GO P r n ds ops M0 w0 rest R (tput o.dst v T) M')) : GO P r n ds ops M0 w0 (o :: rest) R T M := fun a w hk hm hs => by
  refine wpListIn_plain hg fun K hK => h a w hk hm K _ fun v M' w' hm' hs' hr => hK _ _ ?_
  refine hr _ w' ?_ hm' (hs.trans hs')
  generalize hd : o.dst = d' at *
  cases d' with
  | none => exact hk
  | some d => exact hk.put hn v
theorem GO_l (hg : o.guard = none) (hn : dstOK n o.dst) (h : OpL P n o T M (fun v M' => GO P r n ds ops M0 w0 rest R (tput o.dst v T) M')) (hdf : isDefer o = false := by rfl) : GO P r n ds ops M0 w0 (o :: rest) R T M :=
  GO_g_ hg hn (OpG_of_L hdf h)
theorem GO_op (hg : o.guard = none) (hd : o.dst = some d) (hn : d < n) (hv : OpV P n o T M v) (hr : GO P r n ds ops M0 w0 rest R ((d, v) :: T) M) (hdf : isDefer o = false := by rfl) : GO P r n ds ops M0 w0 (o :: rest) R T M :=
  GO_l hg (by rw [hd]; exact hn) (fun a w hk hm next Q' h => OpL_of_V hv a w hk hm next Q' fun u M' w' h1 h2 ⟨e1, e2⟩ => by
    subst e1; subst e2
    exact h _ _ w' h1 h2 (by rw [hd]; exact hr)) hdf
theorem GO_g {j e : Nat} {want g b : Bool} {oj : Oper} (hg : o.guard = some (j, want)) (hj : ops[j]? = some oj) (he : oj.dst = some e) (hb : lk T e = some (gv g (.bool b)))
    (hd : o.dst = some d) (hn : d < n) (hv : g = true → b = want → OpV P n o T M v) (hr : GO P r n ds ops M0 w0 rest R ((d, gv (g && (b == want)) v) :: T) M) (hdf : isDefer o = false := by rfl) : GO P r n ds ops M0 w0 (o :: rest) R T M := fun a w hk hm hs => by
  have hcell := hk.1.2.2 e _ hb
  have hw : Region.wanted o (yielded ops a.tmps) = (g && (b == want)) := by
    simp only [Region.wanted, hg, yielded, hj, Option.bind_some, he, hcell]
    cases g
    · simp [gv, undef]
    · simp [gv]
  refine wpListIn_step fun K hK => ?_
  rw [hw]
  cases hgb : (g && (b == want)) with
  | true =>
    rw [if_pos rfl]
    rw [hgb] at hr
    simp only [Bool.and_eq_true, beq_iff_eq] at hgb
    refine OpG_of_L hdf (OpL_of_V (hv hgb.1 hgb.2)) a w hk hm K _ fun u M' w' h1 h2 ⟨e1, e2⟩ => hK _ _ ?_
    subst e1; subst e2
    rw [hd]
    exact hr _ w' (hk.put hn _) h1 (hs.trans h2)
  | false =>
    rw [if_neg (by simp)]
    rw [hgb] at hr
    rw [hd]
    exact ⟨fun _ _ => trivial, hK _ _ (hr _ w (hk.put hn undef) hm hs)⟩
theorem GO_g1 {j e : Nat} {want b : Bool} {oj : Oper} (hg : o.guard = some (j, want)) (hj : ops[j]? = some oj) (he : oj.dst = some e) (hb : lk T e = some (.bool b))
    (hd : o.dst = some d) (hn : d < n) (hv : b = want → OpV P n o T M v) (hr : GO P r n ds ops M0 w0 rest R ((d, gv (b == want) v) :: T) M) (hdf : isDefer o = false := by rfl) : GO P r n ds ops M0 w0 (o :: rest) R T M :=
  GO_g (g := true) hg hj he (by simpa [gv] using hb) hd hn (fun _ => hv) (by simpa using hr) hdf
theorem G_regl {id : Nat} (h : ∀ w0, GO P r n ds l.toArray M w0 l (Q .normal ds) T M) : G P r n (.region id l.toArray false) Q ds T M := fun a w hk hm =>
  wpIn_mono (wpIn_region_lit (h w a w hk hm (Step.refl _ _))) fun e a' w' ⟨T', M', h1, h2, h3, h4, h5⟩ => ⟨ds, T', M', h1, h2, h3, by rw [h4]; exact h5⟩

theorem wpAnyIn_of {Q' : Exit → Act → World → Prop} (hd : ∀ (i : Nat) (o : Oper), ops[i]? = some o → isDefer o = false) (hQ : Quiet Q') : ∀ (f : Nat) (listed : Array Bool) (a : Act) (w : World),
    wpAny P .any ops Q' f listed a w → wpAnyIn (fen r) 0 P .any ops (fun e a' w' => ∃ a0, a' = plus ds a0 ∧ Q' e a0 w') f listed (plus ds a) w
  | 0, listed, a, w, h => ⟨h.1, a, rfl, h.2⟩
  | f + 1, listed, a, w, h => by
    refine ⟨fun hr => ⟨a, rfl, h.1 hr⟩, fun i hi => ?_⟩
    have h1 := h.2 i hi
    have ih := fun a' w' hh => wpAnyIn_of hd hQ f (listed.setIfInBounds i true) a' w' hh
    unfold wpOp at h1
    unfold wpOpIn
    cases ho : ops[i]? with
    | none => rw [ho] at h1; exact ih a w h1
    | some o =>
      rw [ho] at h1
      simp only at h1 ⊢
      have hpt : (plus ds a).tmps = a.tmps := rfl
      rw [hpt]
      split
      · rename_i hw
        rw [if_pos hw] at h1
        rcases h1 with h1 | h1
        · exact wpIn_of_wp (hd i o ho) ih (fun ch a w hq => by have := hQ _ _ _ hq; cases this) hQ.out h1
        · exact (hQ.out h1.2).elim
      · rename_i hw
        rw [if_neg hw] at h1
        exact ⟨fun _ _ => trivial, by rw [plus_put]; exact ih _ _ h1⟩

theorem G_regD {id : Nat} {l : List Oper} (keep : Nat → Bool) (hm : P.follows .mixedOrders = true) (hd : l.all (fun o => !isDefer o) = true)
    (h : ∀ w0, DO P n l.toArray keep M M w0 (Q .normal ds) (Array.replicate l.toArray.size false) l.toArray.size T M) : G P r n (.region id l.toArray true) Q ds T M := fun a w hk hmm => by
  obtain ⟨a0, hk0, rfl⟩ := hk.of
  have hrep : ∀ m j : Nat, (Array.replicate m false).getD j false = false := by
    intro m j
    rcases Nat.lt_or_ge j m with h | h
    · simp [h]
    · simp [h]
  have hcl : closed l.toArray (Array.replicate l.toArray.size false) := fun j oj hj hl => by
    rw [hrep] at hl; cases hl
  have hdf : ∀ (i : Nat) (o : Oper), l.toArray[i]? = some o → isDefer o = false := fun i o ho => by
    have : o ∈ l := by
      have := Array.mem_of_getElem? ho
      simpa using this
    simpa using List.all_eq_true.1 hd o this
  have := h w a0 _ hk0 (hmm.drawn (w.drawn + 1)) (Step.drawn M w _) (fun _ => hmm.drawn _) hcl
  refine wpIn_mono (wpIn_region_any hm (wpAnyIn_of (r := r) (ds := ds) hdf quiet_Qf _ _ _ _ (wpAny_of_V _ _ _ _ this))) fun e a' w' ⟨a1, e1, T', M', h1, h2, h3, h4, h5⟩ => ?_
  subst e1; subst h4
  exact ⟨ds, T', M', .mk' h1, h2, h3, h5⟩

/-! ### A function value is called -/
def came (M : List Fact) (w : World) (R : Value → List Fact → Prop) : Ending → World → Prop := fun e w' => ∃ v M', e = .returned v ∧ Mem M' w' ∧ Step M w M' w' ∧ R v M'
def CallV (P : Program) (fv : Value) (args : List Value) (M : List Fact) (R : Value → List Fact → Prop) : Prop := ∀ w, Mem M w →
  (∃ f v0 v2, fv = .func (.func f) v0 v2 ∧ (∀ as w, (callFunc f as).run P w = .ok (.enter f as) w) ∧ Calls P f (v0.toList ++ args ++ v2.toList).toArray w (came M w R)) ∨
  (∃ l fn tmps assign body, fv = .func (.yield l) #[] #[] ∧ (Instr.yield l args.toArray).run P w = .ok (.round l fn tmps assign body) w ∧ RoundIn Fence.wide 0 P l fn tmps assign body w (came M w R))
theorem CallV.frame {fv : Value} {args : List Value} {A : List Fact} {R : Value → List Fact → Prop} (h : CallV P fv args M R) : CallV P fv args (A ++ M) (fun v M' => ∃ M1, M' = A ++ M1 ∧ R v M1) := fun w hm => by
  have hc : ∀ e w', came M w R e w' → came (A ++ M) w (fun v M' => ∃ M1, M' = A ++ M1 ∧ R v M1) e w' := fun e w' ⟨v, M1, h1, h2, h3, h4⟩ => ⟨v, A ++ M1, h1, hm.frame h2 h3, h3.frame, M1, rfl, h4⟩
  rcases h w (hm.sub (List.sublist_append_right _ _)) with ⟨f, v0, v2, h1, h2, h3⟩ | ⟨l, fn, tmps, assign, body, h1, h2, h3⟩
  · exact .inl ⟨f, v0, v2, h1, h2, h3.mono hc⟩
  · exact .inr ⟨l, fn, tmps, assign, body, h1, h2, h3.mono hc⟩
theorem CallV.mono {fv : Value} {args : List Value} {R R' : Value → List Fact → Prop} (h : CallV P fv args M R) (hr : ∀ v M', R v M' → R' v M') : CallV P fv args M R' := fun w hm => by
  have hc : ∀ e w', came M w R e w' → came M w R' e w' := fun e w' ⟨v, M1, h1, h2, h3, h4⟩ => ⟨v, M1, h1, h2, h3, hr _ _ h4⟩
  rcases h w hm with ⟨f, v0, v2, h1, h2, h3⟩ | ⟨l, fn, tmps, assign, body, h1, h2, h3⟩
  · exact .inl ⟨f, v0, v2, h1, h2, h3.mono hc⟩
  · exact .inr ⟨l, fn, tmps, assign, body, h1, h2, h3.mono hc⟩

theorem og_callv {l : List Operand} {ts : Array TypeId} {fx : Operand} {fv : Value} {v1 : List Value} {R : Value → List Fact → Prop} (ho : o.op = .call { callee := .value fx, args := l.toArray, argTypes := ts })
    (hf : look T fx = some fv) (ha : looks T l = some v1) (hp : CallV P fv v1 M R) : OpG P r n ds o T M R := fun a w hk hm next Q' hn => by
  obtain ⟨a0, hk0, rfl⟩ := hk.of
  have hdf : isDefer o = false := by unfold isDefer; rw [ho]
  refine ⟨fun _ _ => trivial, ?_⟩
  rw [semAt_of hdf, plus_eval]
  rcases hp w hm with ⟨f, v0, v2, h1, h2, h3⟩ | ⟨l', fn, tmps, assign, body, h1, h2, h3⟩
  · subst h1
    have := run_call (v0 := v0.toList) (v2 := v2.toList) (w := w) hk0 ho (by simpa using hf) ha h2
    rw [this]
    refine ⟨fun h => (by cases h), ?_⟩
    refine CallsIn.mono (F := fen r) (n := 0) (show CallsIn (fen r) 0 P f _ w _ from callsIn_wide.2 h3) fun e w'' ⟨v, M', e1, g1, g2, g3⟩ => ?_
    subst e1
    exact hn v M' w'' g1 g2 g3
  · subst h1
    have hrun : (execOp a0.eval o).run P w = .ok (.round l' fn tmps assign body) w := by
      unfold execOp
      simp only [ho]
      simp [resolve, Deferred.ofValue, invoke, hk0.eval hf, hk0.evals ha, h2]
    rw [hrun]
    refine ⟨fun h => (by cases h), ?_⟩
    have h4 : RoundIn (fen r) 0 P l' fn tmps assign body w (came M w R) := h3
    refine RoundIn.mono (F := fen r) (n := 0) h4 fun e w'' ⟨v, M', e1, g1, g2, g3⟩ => ?_
    subst e1
    exact hn v M' w'' g1 g2 g3
theorem GO_callv {ops : Array Oper} {l : List Operand} {ts : Array TypeId} {fx : Operand} {fv : Value} {v1 : List Value} (hg : o.guard = none) (hn : dstOK n o.dst) (ho : o.op = .call { callee := .value fx, args := l.toArray, argTypes := ts })
    (hf : look T fx = some fv) (ha : looks T l = some v1) (hp : CallV P fv v1 M (fun v M' => GO P r n ds ops M0 w0 rest R (tput o.dst v T) M')) : GO P r n ds ops M0 w0 (o :: rest) R T M :=
  GO_g_ hg hn (og_callv ho hf ha hp)

/-! ### A range over a function -/
/-- Function g, handed a yield, calls it N times: in round k with values of which Pre tells, some memory F lent. -/
def Seq (P : Program) (g : FuncId) (caps : List Value) (A : List Fact) (N : Nat) (Pre : Nat → List Value → List Fact → Prop) : Prop :=
  ∀ (cb : Value) (Mc Mx : Nat → List Fact → Prop), (∀ k vals F M, k < N → Pre k vals F → Mc k M →
      CallV P cb vals (F ++ M) (fun v M' => ∃ M1, M' = F ++ M1 ∧ ((v = .bool true ∧ Mc (k + 1) M1) ∨ (v = .bool false ∧ Mx k M1)))) →
    ∀ M, Mc 0 M → Con P g (cb :: caps) (A ++ M) (fun _ M' => (∃ M1, List.Sublist M1 M' ∧ Mc N M1) ∨ ∃ k M1, k < N ∧ List.Sublist M1 M' ∧ Mx k M1)

/-- The values of a list, one behind the other; nothing is lent. -/
def PreL {α : Type} (encs : α → List Value) (xs : List α) : Nat → List Value → List Fact → Prop := fun k vals F => ∃ x, xs[k]? = some x ∧ vals = encs x ∧ F = []

def setps (ps : List Nat) (vs : List Value) (T : Tm) : Tm := (ps.zip vs).foldl (fun T q => q :: T) T

/-- How a round is left. -/
def roundG (I Ix : List Fact → Prop) : GPost
  | .normal => fun _ _ M' => ∃ M3, List.Perm M3 M' ∧ ∃ M1, List.Sublist M1 M3 ∧ I M1
  | .ret => fun _ _ M' => ∃ M3, List.Perm M3 M' ∧ ∃ M1, List.Sublist M1 M3 ∧ Ix M1
  | _ => fun _ _ _ => False

theorem knows_zip {ps : List Nat} {vs : List Value} : ∀ {T : Tm} {t : Array Value}, (∀ p ∈ ps, p < n) → Knows n T { tmps := t, defers := [] } →
    Knows n (setps ps vs T) { tmps := (ps.zip vs).foldl (fun t q => t.setIfInBounds q.1 q.2) t, defers := [] } := by
  induction ps generalizing vs with
  | nil => intro T t _ hk; exact hk
  | cons p ps ih =>
    intro T t hp hk
    cases vs with
    | nil => exact hk
    | cons v vs =>
      exact ih (fun q hq => hp q (List.mem_cons_of_mem _ hq)) (hk.put (hp p (List.mem_cons_self ..)) v)

theorem new_obj {w : World} (hm : Mem M w) (o : Obj) : Mem (.obj w.heap.size o :: M) (w.alloc o) ∧ Step M w (.obj w.heap.size o :: M) (w.alloc o) := by
  have hsz : w.heap.size ≤ (w.alloc o).heap.size := by rw [World.size_alloc]; omega
  have hs : ∀ b, b < w.heap.size → (w.alloc o).heap[b]? = w.heap[b]? := fun b hb => by
    show (w.heap.push o)[b]? = _
    rw [Array.getElem?_push, if_neg (by omega)]
  exact ⟨hm.cons hsz hs (World.alloc_heap_new w o) (by simp [Fact.mut]) (by simp [Fact.mut]) (by simp [Fact.imm]),
    Step.cons hsz hs (by simp [Fact.mut]) (by simp [Fact.imm]) rfl rfl rfl⟩
theorem put_obj {w : World} {b : Nat} {o : Obj} (hm : Mem (.obj b o :: M) w) (o' : Obj) : Mem (.obj b o' :: M) (w.putObj b o') ∧ Step (.obj b o :: M) w (.obj b o' :: M) (w.putObj b o') := by
  have hb : w.heap[b]? = some o := hm.all (.obj b o) (by simp)
  have hlt : b < w.heap.size := (Array.getElem?_eq_some_iff.1 hb).1
  have hsz : w.heap.size ≤ (w.putObj b o').heap.size := by simp
  have hs : ∀ k, k < w.heap.size → k ∉ (Fact.obj b o).mut → (w.putObj b o').heap[k]? = w.heap[k]? := fun k _ hk => World.putObj_heap_other (by simpa [Fact.mut] using hk)
  exact ⟨hm.head hsz hs (World.putObj_heap_same hlt) (by simp [Fact.mut]) (fun k hk => .inl hk) rfl,
    Step.head hsz hs (fun k hk => .inl hk) rfl rfl rfl rfl⟩

theorem G_range {gx : Operand} {ps : List Nat} {assign body : Code} {gf : FuncId} {caps : List Value} {A M0 : List Fact} {N : Nat} {Pre : Nat → List Value → List Fact → Prop}
    (hg : look T gx = some (.func (.func gf) #[] caps.toArray)) (hcf : ∀ as w, (callFunc gf as).run P w = .ok (.enter gf as) w) (hseq : Seq P gf caps A N Pre)
    (hps : ∀ k vals F, Pre k vals F → vals.length = ps.length) (hpn : ∀ p ∈ ps, p < n) (I Ix : Nat → List Fact → Prop) (hM : List.Perm (A ++ M0) M) (h0 : I 0 M0)
    (hround : ∀ l k vals F M, k < N → Pre k vals F → I k M → G P (some l) n assign (thenG (fun ds T' M' => ds = [] ∧ G P (some l) n body (roundG (fun M1 => ∃ M2, M1 = F ++ M2 ∧ I (k + 1) M2) (fun M1 => ∃ M2, M1 = F ++ M2 ∧ Ix k M2)) [] T' M') (fun _ _ _ _ => False)) [] (setps ps vals T) (F ++ M))
    (hdone : ∀ D M, I N M → Q .normal ({ target := .collected D, args := #[] } :: ds) T (.obj D (.deferred (some [])) :: M))
    (hstop : ∀ D k M, k < N → Ix k M → Q .ret ({ target := .collected D, args := #[] } :: ds) T (.obj D (.deferred (some [])) :: M)) :
    G P none n (.rangeFunc gx ps.toArray assign body) Q ds T M := fun a w hk hm => by
  obtain ⟨a0, hk0, rfl⟩ := hk.of
  refine wpIn_rangeFunc ?_
  intro fn _
  obtain ⟨rc, hrc⟩ : ∃ rc : LoopState → Option Code → Loop, rc = fun st pe => { state := st, pending := pe, fn, tmps := a0.tmps, params := ps.toArray, assign, body, defers := w.heap.size } := ⟨_, rfl⟩
  obtain ⟨D, hD⟩ : ∃ D, D = w.heap.size := ⟨_, rfl⟩
  obtain ⟨L, hL⟩ : ∃ L, L = w.heap.size + 1 := ⟨_, rfl⟩
  obtain ⟨m1, s1⟩ := new_obj hm (.deferred (some []))
  obtain ⟨m2, s2⟩ := new_obj m1 (.loop (rc .ready none))
  rw [World.size_alloc, ← hL, ← hD] at m2 s2
  rw [← hD] at s1
  obtain ⟨W1, hW1⟩ : ∃ W1, (w.alloc (.deferred (some []))).alloc (.loop (rc .ready none)) = W1 := ⟨_, rfl⟩
  rw [hW1] at m2 s2
  have hp : List.Perm (A ++ (.obj L (.loop (rc .ready none)) :: .obj D (.deferred (some [])) :: M0)) (.obj L (.loop (rc .ready none)) :: .obj D (.deferred (some [])) :: M) := by
    have h1 : List.Perm (A ++ ([.obj L (.loop (rc .ready none)), .obj D (.deferred (some []))] ++ M0)) ([.obj L (.loop (rc .ready none)), .obj D (.deferred (some []))] ++ (A ++ M0)) := by
      rw [← List.append_assoc, ← List.append_assoc]
      exact List.Perm.append_right _ List.perm_append_comm
    exact h1.trans (List.Perm.append_left [.obj L (.loop (rc .ready none)), .obj D (.deferred (some []))] hM)
  refine ⟨L, [{ target := .collected D, args := #[] }], W1, { target := .fn (.func gf) caps.toArray, args := #[.func (.yield L) #[] #[]] }, W1, gf, #[.func (.yield L) #[] #[]] ++ caps.toArray, W1, ?_, ?_, fun _ _ => trivial, ?_, fun h => (by cases h), ?_⟩
  · rw [← hW1, hrc, hL, hD]; exact run_enterLoop_outer _ _ _ _ _
  · have hge : (plus ds a0).eval gx = .func (.func gf) #[] caps.toArray := by rw [plus_eval]; exact hk0.eval hg
    simp only [resolve, hge]
    simp [go_sem]
  · simp [invoke, go_sem, hcf]
  · have hcon := hseq (.func (.yield L) #[] #[])
      (fun k M' => ∃ M1, M' = .obj L (.loop (rc .ready none)) :: .obj D (.deferred (some [])) :: M1 ∧ I k M1)
      (fun k M' => ∃ M1, M' = .obj L (.loop (rc .done (some .ret))) :: .obj D (.deferred (some [])) :: M1 ∧ Ix k M1) ?_ _ ⟨M0, rfl, h0⟩ W1 (m2.perm hp)
    · have hargs : (#[.func (.yield L) #[] #[]] ++ caps.toArray : Array Value) = (.func (.yield L) #[] #[] :: caps).toArray := by simp
      rw [hargs]
      refine CallsIn.mono (F := fen none) (n := 0) (show CallsIn (fen none) 0 P gf _ W1 _ from callsIn_wide.2 hcon) ?_
      rintro e w3 ⟨v, M', rfl, g1, g2, (⟨M1, hs, M2, rfl, hi⟩ | ⟨k, M1, hk', hs, M2, rfl, hi⟩)⟩
      · have g3 := g1.sub hs
        have hl3 : w3.heap[L]? = some (.loop (rc .ready none)) := g3.all (.obj L _) (by simp)
        obtain ⟨q1, q2⟩ := put_obj g3 (.loop { rc .ready none with state := .exhausted })
        refine ⟨none, _, (by have := run_endLoop (P := P) hl3 (by rw [hrc]; simp); rw [this]; rw [hrc]), _, T, _, KnowsD.mk' (ds := { target := .collected D, args := #[] } :: ds) hk0 |> fun h => ?_, q1.sub (List.sublist_cons_self _ _), ?_, hdone D _ hi⟩
        · obtain ⟨h1, h2⟩ := h
          refine ⟨h1, ?_⟩
          show [{ target := .collected D, args := #[] }] ++ (a0.defers ++ ds) = _
          rw [hk0.2.1]; rfl
        · exact s1.trans (s2.trans ((Step.perm hp).trans (g2.trans ((Step.sub hs).trans (q2.trans (Step.sub (List.sublist_cons_self _ _)))))))
      · have g3 := g1.sub hs
        have hl3 : w3.heap[L]? = some (.loop (rc .done (some .ret))) := g3.all (.obj L _) (by simp)
        obtain ⟨q1, q2⟩ := put_obj g3 (.loop { rc .done (some .ret) with state := .exhausted })
        refine ⟨some .ret, _, (by have := run_endLoop (P := P) hl3 (by rw [hrc]; simp); rw [this]; rw [hrc]), wpIn_ret ⟨_, T, _, KnowsD.mk' (ds := { target := .collected D, args := #[] } :: ds) hk0 |> fun h => ?_, q1.sub (List.sublist_cons_self _ _), ?_, hstop D k _ hk' hi⟩⟩
        · obtain ⟨h1, h2⟩ := h
          refine ⟨h1, ?_⟩
          show [{ target := .collected D, args := #[] }] ++ (a0.defers ++ ds) = _
          rw [hk0.2.1]; rfl
        · exact s1.trans (s2.trans ((Step.perm hp).trans (g2.trans ((Step.sub hs).trans (q2.trans (Step.sub (List.sublist_cons_self _ _)))))))
    · -- one round
      rintro k vals F M' hkN hpre ⟨M1, rfl, hi⟩ w2 hm2
      have hpf : ∀ (o1 o2 : Fact) (X : List Fact), List.Perm (o1 :: o2 :: (F ++ X)) (F ++ (o1 :: o2 :: X)) := fun o1 o2 X => by
        have h1 : List.Perm ([o1, o2] ++ (F ++ X)) (F ++ ([o1, o2] ++ X)) := by
          rw [← List.append_assoc, ← List.append_assoc]
          exact List.Perm.append_right _ List.perm_append_comm
        exact h1
      have hm2' := hm2.perm (hpf _ _ _)
      have hl2 : w2.heap[L]? = some (.loop (rc .ready none)) := hm2'.all (.obj L _) (by simp)
      have hy := run_yield (P := P) (args := vals.toArray) hl2 (by rw [hrc]; simpa using hps k vals F hpre)
      rw [hrc] at hy
      refine .inr ⟨L, fn, _, assign, body, rfl, hy, roundIn_of_wpIn trivial ?_⟩
      have hz : KnowsD [] n (setps ps vals T) { tmps := ((ps.toArray).zip vals.toArray).foldl (fun t (q : Nat × Value) => t.setIfInBounds q.1 q.2) a0.tmps, defers := [] } := by
        refine ⟨?_, rfl⟩
        have hk1 : Knows n T { tmps := a0.tmps, defers := [] } := ⟨hk0.1, rfl, hk0.2.2⟩
        have := knows_zip (vs := vals) hpn hk1
        simpa using this
      refine wpIn_mono ((G_frame (A := [.obj L (.loop (rc .ready none)), .obj D (.deferred (some []))]) (hround L k vals F M1 hkN hpre hi)) _ w2 hz hm2') ?_
      rintro e a1 w3 ⟨ds1, T1, M2, k1, k2, k3, M3, rfl, hq⟩
      cases e with
      | normal =>
        obtain ⟨rfl, hq⟩ := hq
        have hl3 : w3.heap[L]? = some (.loop (rc .ready none)) := k2.all (.obj L _) (by simp)
        obtain ⟨q1, q2⟩ := put_obj k2 (.loop { rc .ready none with state := .busy })
        refine ⟨_, run_beginRound hl3 (by rw [hrc]), ?_⟩
        refine wpIn_mono ((G_frame (A := [.obj L (.loop { rc .ready none with state := .busy }), .obj D (.deferred (some []))]) hq) _ _ k1 q1) ?_
        rintro e a2 w4 ⟨ds2, T2, M4, j1, j2, j3, M5, rfl, hr⟩
        have hl4 : w4.heap[L]? = some (.loop { rc .ready none with state := .busy }) := j2.all (.obj L _) (by simp)
        have hst := (Step.perm (w := w2) (hpf (.obj L (.loop (rc .ready none))) (.obj D (.deferred (some []))) M1)).trans (k3.trans (q2.trans j3))
        have hend := fun jump => run_endRound (P := P) jump hl4
        cases e with
        | normal =>
          obtain ⟨M3', hp6, _, hs6, M6, rfl, hi6⟩ := hr
          have hpp : List.Perm (Fact.obj L (.loop { rc .ready none with state := .busy }) :: Fact.obj D (.deferred (some [])) :: M3') _ := (hp6.cons (Fact.obj D (.deferred (some [])))).cons (Fact.obj L (.loop { rc .ready none with state := .busy }))
          obtain ⟨p1, p2⟩ := put_obj (j2.perm hpp) (.loop (rc .ready none))
          have hst := hst.trans (Step.perm hpp)
          have hs7 := (hs6.cons_cons (Fact.obj D (.deferred (some [])))).cons_cons (Fact.obj L (.loop (rc .ready none)))
          refine ⟨.bool true, _, by rw [hend none, hrc]; rfl, .bool true, _, rfl, (p1.sub hs7).perm (hpf _ _ M6).symm, hst.trans (p2.trans ((Step.sub hs7).trans (Step.perm (hpf _ _ M6).symm))), _, rfl, .inl ⟨rfl, M6, rfl, hi6⟩⟩
        | ret =>
          obtain ⟨M3', hp6, _, hs6, M6, rfl, hi6⟩ := hr
          have hpp : List.Perm (Fact.obj L (.loop { rc .ready none with state := .busy }) :: Fact.obj D (.deferred (some [])) :: M3') _ := (hp6.cons (Fact.obj D (.deferred (some [])))).cons (Fact.obj L (.loop { rc .ready none with state := .busy }))
          obtain ⟨p1, p2⟩ := put_obj (j2.perm hpp) (.loop (rc .done (some .ret)))
          have hst := hst.trans (Step.perm hpp)
          have hs7 := (hs6.cons_cons (Fact.obj D (.deferred (some [])))).cons_cons (Fact.obj L (.loop (rc .done (some .ret))))
          refine ⟨.bool false, _, by rw [hend (some .ret), hrc]; rfl, .bool false, _, rfl, (p1.sub hs7).perm (hpf _ _ M6).symm, hst.trans (p2.trans ((Step.sub hs7).trans (Step.perm (hpf _ _ M6).symm))), _, rfl, .inr ⟨rfl, M6, rfl, hi6⟩⟩
        | exit id => exact hr.elim
        | goto t => exact hr.elim
        | panic ch => exact hr.elim
        | outgrown => exact hr.elim
      | exit id => exact hq.elim
      | goto t => exact hq.elim
      | ret => exact hq.elim
      | panic ch => exact hq.elim
      | outgrown => exact hq.elim

/-- What lies at a function's end, a mark among its deferred calls or none. -/
def endG (P : Program) (n : Nat) (fn : Func) (R : Value → List Fact → Prop) : GPost := fun e ds T' M' => isEnd e ∧
  ((ds = [] ∧ ∃ v M'', ResV P n fn T' M' v ∧ List.Sublist M'' M' ∧ R v M'') ∨
   (∃ D M1, ds = [{ target := .collected D, args := #[] }] ∧ M' = .obj D (.deferred (some [])) :: M1 ∧ ∃ v M'', ResV P n fn T' M1 v ∧ List.Sublist M'' M1 ∧ R v M''))

theorem con_of_G {f : FuncId} {fn : Func} {args : List Value} {R : Value → List Fact → Prop} (hf : P.funcs[f]? = some fn) (hb : fn.body = some c) (hn : fn.ntmps = n) (hl : args.length ≤ n)
    (h : G P none n c (endG P n fn R) [] (params 0 args) M) : Con P f args M R := fun w hm => by
  refine callsIn_wide.1 (callsIn_of_wp_marks (F := fen none) (n := 0) hf hb trivial (wpIn_mono (h _ w ⟨⟨?_, rfl, fun i v hi => ?_⟩, rfl⟩ hm) ?_) rfl)
  · simp [hn]; omega
  · have := (params_lk args 0 i v hi).2
    simp at this
    have hlt : i < args.length := (List.getElem?_eq_some_iff.1 this).1
    show (_ ++ _)[i]? = _
    rw [Array.getElem?_append_left (by simpa using hlt)]
    simpa using this
  · rintro e a' w' ⟨ds', T', M', h1, h2, h3, he, hr⟩
    have key : LeavesInM (fen none) 0 P fn a'.tmps (fun e w' => ∃ v M', e = .returned v ∧ Mem M' w' ∧ Step M w M' w' ∧ R v M') a'.defers .returning w' := by
      rcases hr with ⟨rfl, v, M'', h4, h5, h6⟩ | ⟨D, M1, rfl, rfl, v, M'', h4, h5, h6⟩
      · rw [h1.2]
        refine ⟨v, h4 { a' with defers := [] } w' h1.1 h2, v, M'', rfl, h2.sub h5, h3.trans (Step.sub h5), h6⟩
      · rw [h1.2]
        have hD : w'.heap[D]? = some (.deferred (some [])) := h2.all (.obj D _) (by simp)
        obtain ⟨p1, p2⟩ := put_obj h2 (.deferred none)
        refine ⟨by simp, .inl ⟨D, _, rfl, run_takeDeferred hD, v, ?_, v, M'', rfl, ?_, ?_, h6⟩⟩
        · exact h4 { a' with defers := [] } _ h1.1 (p1.sub (List.sublist_cons_self _ _))
        · exact p1.sub (h5.trans (List.sublist_cons_self _ _))
        · exact h3.trans (p2.trans (Step.sub (h5.trans (List.sublist_cons_self _ _))))
    cases e <;> first
      | exact key
      | exact he.elim
theorem pure_of_G {f : FuncId} {fn : Func} {args : List Value} {v : Value} (hf : P.funcs[f]? = some fn) (hb : fn.body = some c) (hn : fn.ntmps = n) (hl : args.length ≤ n)
    (h : G P none n c (endG P n fn (fun u M' => u = v ∧ M' = M)) [] (params 0 args) M) : Pure P f args M v := fun w hm =>
  (con_of_G hf hb hn hl h w hm).mono fun e w' ⟨u, M', h1, h2, h3, h4, h5⟩ => by subst h4; subst h5; exact ⟨h1, h2, h3⟩

theorem HasList.cell {w : World} {v : Value} {t : Ty} {xs : List (El t)} (hl : HasList M v t xs) (hm : Mem M w) : v.oneCell' = true := by
  rcases (hl w hm).2 with ⟨rfl, _⟩ | ⟨b, off, cap, cs, tid, fr, rfl, _⟩ <;> rfl
theorem GO_cell {ops : Array Oper} {l : List Oper} {v : Value} {t : Ty} {xs : List (El t)} (hl : HasList M v t xs) (h : v.oneCell' = true → GO P r n ds ops M0 w0 l R T M) : GO P r n ds ops M0 w0 l R T M :=
  fun a w hk hm => h (hl.cell hm) a w hk hm
theorem len_ok {a b bytes : Nat} (h : a ≤ 1000000) (h2 : b ≤ 100) (hb : bytes ≤ 1000) : (a + b) * bytes ≤ 140737488355328 :=
  Nat.le_trans (Nat.mul_le_mul (Nat.add_le_add h h2) hb) (by decide)
theorem len_ok_ {a b : Nat} (h : a ≤ 1000000) (h2 : b ≤ 100) : a + b ≤ maxLen := Nat.le_trans (Nat.add_le_add h h2) (by decide)
theorem ov_indexStr {tid : TypeId} {x y : Operand} {s : ByteArray} {k : IntKind} {ix : Int} {u : UInt8} (ho : o.op = .index tid x y) (hx : look T x = some (.string s)) (hy : look T y = some (.int k ix)) (hu : P.underlying tid = some .string)
    (h0 : 0 ≤ ix) (hs : s[ix.toNat]? = some u) : OpX P n o T M (.int .u8 u.toNat) := ov_run fun a w hk hmm => by
  unfold execOp; simp only [ho, hk.eval hx, hk.eval hy]
  simp [Instr.index, run_underlying hu, asIntOf, h0, hs]
end
end Go.Kw
set_option linter.unusedVariables false
set_option linter.unusedSimpArgs false
namespace Go.Kw
section
variable {P : Program} {n : Nat} {T : Tm} {M : List Fact} {o : Oper} {v w1 w2 w3 : Value} {x y z : Operand} {b tid tidb : Nat} {t : Ty} {p : List PS} {c : Code} {Q : Post}

/-! ### scopes -/
def noGotoQ (Q : Post) : Post
  | .goto _, _, _ => False
  | e, T, M => Q e T M
theorem W_scope (h : W P n c (noGotoQ Q) T M) : W P n (.scope c) Q T M := fun a w hk hm =>
  wp_scope_straight (Code.wp_mono (fun e a' w' ⟨T', M', h1, h2, h3, h4⟩ => by
    cases e <;> first
      | exact ⟨T', M', h1, h2, h3, h4⟩
      | exact h4.elim) (h a w hk hm))

/-! ### equality -/
theorem bytes_beq (a b : ByteArray) : (a == b) = true ↔ a = b := by
  show ByteArray.beq a b = true ↔ a = b
  cases a; cases b
  simp [ByteArray.beq]
mutual
def eqv : (t : Ty) → El t → El t → Bool
  | .int k, a, b => decide (encInt k a = encInt k b)
  | .bool, a, b => (show Bool from a) == (show Bool from b)
  | .str, a, b => (show ByteArray from a) == (show ByteArray from b)
  | .fn, _, _ => false
  | .st fs, x, y => eqvs fs x y
  | .ar n t, xs, ys => (List.range n).all fun i => eqv t (List.getD xs i (zero t)) (List.getD ys i (zero t))
def eqvs : (fs : List Ty) → Els fs → Els fs → Bool
  | [], _, _ => true
  | t :: fs, x, y => eqv t x.1 y.1 && eqvs fs x.2 y.2
end
mutual
def noFn : Ty → Bool
  | .fn => false
  | .st fs => noFns fs
  | .ar _ t => noFn t
  | _ => true
def noFns : List Ty → Bool
  | [] => true
  | t :: fs => noFn t && noFns fs
end
theorem encInt_inj : (k : IntKind) → (a b : IntEl k) → encInt k a = encInt k b → a = b
  | .u64, a, b, h => by
    have h' : ((a.toNat : Nat) : Int) = (b.toNat : Nat) := h
    exact BitVec.eq_of_toNat_eq (Int.ofNat.inj h')
  | .i8, _, _, h => h | .i16, _, _, h => h | .i32, _, _, h => h | .i64, _, _, h => h | .u8, _, _, h => h | .u16, _, _, h => h | .u32, _, _, h => h
mutual
theorem eqv_iff : (t : Ty) → noFn t = true → (x y : El t) → wf t x → wf t y → (eqv t x y = true ↔ x = y)
  | .int k, _, a, b, _, _ => by
    show decide (encInt k a = encInt k b) = true ↔ _
    rw [decide_eq_true_eq]
    exact ⟨encInt_inj k a b, fun e => e ▸ rfl⟩
  | .bool, _, a, b, _, _ => by
    show ((show Bool from a) == (show Bool from b)) = true ↔ _
    exact beq_iff_eq
  | .str, _, a, b, _, _ => by
    show ((show ByteArray from a) == (show ByteArray from b)) = true ↔ _
    exact bytes_beq _ _
  | .fn, h, _, _, _, _ => by cases h
  | .st fs, h, x, y, hx, hy => eqvs_iff fs h x y hx hy
  | .ar n t, h, xs, ys, hx, hy => by
    show (List.range n).all (fun i => eqv t (List.getD xs i (zero t)) (List.getD ys i (zero t))) = true ↔ _
    obtain ⟨hx1, hx2⟩ := hx
    obtain ⟨hy1, hy2⟩ := hy
    have hg : ∀ (l : List (El t)) (i : Nat), (∀ x ∈ l, wf t x) → i < l.length → wf t (l.getD i (zero t)) := fun l i hl hi => by
      rw [List.getD_eq_getElem?_getD, List.getElem?_eq_getElem hi]; exact hl _ (List.getElem_mem hi)
    rw [List.all_eq_true]
    constructor
    · intro hall
      have : ∀ (l m : List (El t)), l.length = n → m.length = n → (∀ i, i < n → l.getD i (zero t) = m.getD i (zero t)) → l = m := fun l m h1 h2 h3 => by
        apply List.ext_getElem (by omega)
        intro i g1 g2
        have := h3 i (by omega)
        rw [List.getD_eq_getElem?_getD, List.getElem?_eq_getElem g1, List.getD_eq_getElem?_getD, List.getElem?_eq_getElem g2] at this
        exact this
      exact this xs ys hx1 hy1 fun i hi => (eqv_iff t h _ _ (hg xs i hx2 (Nat.lt_of_lt_of_eq hi hx1.symm)) (hg ys i hy2 (Nat.lt_of_lt_of_eq hi hy1.symm))).1 (hall i (List.mem_range.2 hi))
    · rintro rfl i hi
      have hi' := List.mem_range.1 hi
      exact (eqv_iff t h _ _ (hg xs i hx2 (Nat.lt_of_lt_of_eq hi' hx1.symm)) (hg xs i hx2 (Nat.lt_of_lt_of_eq hi' hx1.symm))).2 rfl
theorem eqvs_iff : (fs : List Ty) → noFns fs = true → (x y : Els fs) → wfs fs x → wfs fs y → (eqvs fs x y = true ↔ x = y)
  | [], _, _, _, _, _ => ⟨fun _ => rfl, fun _ => rfl⟩
  | t :: fs, h, x, y, hx, hy => by
    have h' : noFn t = true ∧ noFns fs = true := by simpa [noFns] using h
    show (eqv t x.1 y.1 && eqvs fs x.2 y.2) = true ↔ _
    rw [Bool.and_eq_true, eqv_iff t h'.1 x.1 y.1 hx.1 hy.1, eqvs_iff fs h'.2 x.2 y.2 hx.2 hy.2]
    exact ⟨fun ⟨h1, h2⟩ => Prod.ext h1 h2, fun e => ⟨congrArg Prod.fst e, congrArg Prod.snd e⟩⟩
end

mutual
def EqT (P : Program) : Nat → TypeId → Ty → Prop
  | 0, _, _ => False
  | _ + 1, tid, .int k => P.underlying tid = some (.int k)
  | _ + 1, tid, .bool => P.underlying tid = some .bool
  | _ + 1, tid, .str => P.underlying tid = some .string
  | _ + 1, _, .fn => False
  | d + 1, tid, .st fs => P.underlying tid = some (.struct (P.fieldsOf tid)) ∧ P.stoodInHeld tid = false ∧ EqF P d (P.fieldsOf tid).toList fs 0
  | d + 1, tid, .ar n t => ∃ e, P.underlying tid = some (.array n e) ∧ (∃ i, P.info? e = some i ∧ i.size = t.size) ∧ TyOK P e t ∧ EqT P d e t
def EqF (P : Program) : Nat → List Field → List Ty → Nat → Prop
  | _, [], [], _ => True
  | d, f :: fl, t :: fs, off => f.name ≠ "_" ∧ f.offset = off ∧ TyOK P f.type t ∧ EqT P d f.type t ∧ EqF P d fl fs (off + t.size)
  | _, _, _, _ => False
end

theorem eqf_run {d : Nat} {k : Nat} (ih : ∀ (t : Ty) (tid : TypeId) (w : World), EqT P d tid t → ∀ (x y : El t), wf t x → wf t y → (Op.equalIn (d + k) tid (enc t x) (enc t y)).run P w = .ok (eqv t x y) w) (w : World) :
    ∀ (fl : List Field) (fs : List Ty) (off : Nat) (x y : Els fs) (cs ds : List Value), EqF P d fl fs off → wfs fs x → wfs fs y → (cs.drop off).take (sizes fs) = cellss fs x → (ds.drop off).take (sizes fs) = cellss fs y →
      (Op.eqFields (d + k) cs.toArray ds.toArray fl).run P w = .ok (eqvs fs x y) w
  | [], [], _, _, _, _, _, _, _, _, _, _ => by simp [Op.eqFields, eqvs]
  | [], _ :: _, _, _, _, _, _, h, _, _, _, _ => by simp [EqF] at h
  | _ :: _, [], _, _, _, _, _, h, _, _, _, _ => by simp [EqF] at h
  | f :: fl, t :: fs, off, x, y, cs, ds, h, hx, hy, hc, hd => by
    obtain ⟨h1, h2, h3, h4, h5⟩ := h
    have key : ∀ (l : List Value) (u : Els (t :: fs)), wfs (t :: fs) u → (l.drop off).take (sizes (t :: fs)) = cellss (t :: fs) u →
        (l.drop off).take t.size = cells t u.1 ∧ (l.drop (off + t.size)).take (sizes fs) = cellss fs u.2 := fun l u hu he => by
      have hl := cells_length t u.1 hu.1
      have e1 : (l.drop off).take (t.size + sizes fs) = cells t u.1 ++ cellss fs u.2 := he
      constructor
      · have := congrArg (List.take t.size) e1
        rw [List.take_take, Nat.min_eq_left (by omega)] at this
        rw [this, ← hl, List.take_left']
        rfl
      · have := congrArg (List.drop t.size) e1
        rw [List.drop_take, List.drop_drop] at this
        rw [show t.size + sizes fs - t.size = sizes fs by omega] at this
        rw [this, ← hl, List.drop_left']
        rfl
    obtain ⟨a1, a2⟩ := key cs x hx hc
    obtain ⟨b1, b2⟩ := key ds y hy hd
    have p1 := run_part (P := P) (tid := f.type) (w := w) h3 hx.1 a1
    have p2 := run_part (P := P) (tid := f.type) (w := w) h3 hy.1 b1
    have q := ih t f.type w h4 x.1 y.1 hx.1 hy.1
    have r := eqf_run ih w fl fs (off + t.size) x.2 y.2 cs ds h5 hx.2 hy.2 a2 b2
    rw [← h2] at p1 p2
    simp only [Op.eqFields, h1, ne_eq, not_false_eq_true, if_true, Sem.run_bind, p1, p2, q, Result.andThen_ok]
    show _ = Result.ok (eqv t x.1 y.1 && eqvs fs x.2 y.2) w
    cases eqv t x.1 y.1
    · simp
    · simpa using r

theorem eqi_run {d k n : Nat} {e : TypeId} {t : Ty} (ih : ∀ (w : World) (x y : El t), wf t x → wf t y → (Op.equalIn (d + k) e (enc t x) (enc t y)).run P w = .ok (eqv t x y) w) (hty : TyOK P e t) (xs ys : List (El t)) (hx : xs.length = n) (hy : ys.length = n) (wx : ∀ x ∈ xs, wf t x) (wy : ∀ x ∈ ys, wf t x) (w : World) :
    ∀ (is : List Nat), (∀ i ∈ is, i < n) → (Op.eqItems (d + k) e t.size (xs.flatMap (cells t)).toArray (ys.flatMap (cells t)).toArray is).run P w = .ok (is.all fun i => eqv t (xs.getD i (zero t)) (ys.getD i (zero t))) w
  | [], _ => by simp [Op.eqItems]
  | i :: is, h => by
    have hi := h i (by simp)
    obtain ⟨g1, g2, g3, _⟩ := flat_elem (zero t) xs wx i (by omega)
    obtain ⟨k1, k2, k3, _⟩ := flat_elem (zero t) ys wy i (by omega)
    have p1 := run_part (P := P) (tid := e) (w := w) hty g1 g3
    have p2 := run_part (P := P) (tid := e) (w := w) hty k1 k3
    have q := ih w _ _ g1 k1
    have r := eqi_run ih hty xs ys hx hy wx wy w is (fun j hj => h j (by simp [hj]))
    simp only [Op.eqItems, Sem.run_bind, p1, p2, q, Result.andThen_ok, List.all_cons]
    cases eqv t (xs.getD i (zero t)) (ys.getD i (zero t))
    · simp
    · simpa using r

theorem eq_run (k : Nat) : ∀ (d : Nat) (t : Ty) (tid : TypeId) (w : World), EqT P d tid t → ∀ (x y : El t), wf t x → wf t y → (Op.equalIn (d + k) tid (enc t x) (enc t y)).run P w = .ok (eqv t x y) w
  | 0, t, tid, w, h, _, _, _, _ => by cases t <;> exact h.elim
  | d + 1, .int kk, tid, w, h, x, y, _, _ => by
    have h' : P.underlying tid = some (.int kk) := h
    rw [show d + 1 + k = d + k + 1 by omega]
    simp [Op.equalIn, run_underlying h', enc, eqv]
    rfl
  | d + 1, .bool, tid, w, h, x, y, _, _ => by
    have h' : P.underlying tid = some .bool := h
    rw [show d + 1 + k = d + k + 1 by omega]
    simp [Op.equalIn, run_underlying h', enc, eqv]
  | d + 1, .str, tid, w, h, x, y, _, _ => by
    have h' : P.underlying tid = some .string := h
    rw [show d + 1 + k = d + k + 1 by omega]
    simp [Op.equalIn, run_underlying h', enc, eqv]
  | d + 1, .fn, tid, w, h, x, y, _, _ => h.elim
  | d + 1, .st fs, tid, w, h, x, y, hx, hy => by
    obtain ⟨h1, h2, h3⟩ := h
    rw [show d + 1 + k = d + k + 1 by omega]
    show (Op.equalIn (d + k + 1) tid (.agg (cellss fs x).toArray) (.agg (cellss fs y).toArray)).run P w = _
    rw [run_equalIn_struct w (d + k) tid _ _ h1 h2]
    have hl := cellss_length fs x hx
    have hl2 := cellss_length fs y hy
    exact eqf_run (fun t tid w => eq_run k d t tid w) w _ fs 0 x y _ _ h3 hx hy (by rw [List.drop_zero, List.take_of_length_le (by omega)]) (by rw [List.drop_zero, List.take_of_length_le (by omega)])
  | d + 1, .ar m t, tid, w, h, xs, ys, hx, hy => by
    obtain ⟨e, h1, ⟨i, h2, h2s⟩, h3, h4⟩ := h
    rw [show d + 1 + k = d + k + 1 by omega]
    show (Op.equalIn (d + k + 1) tid (.agg (List.flatMap (cells t) xs).toArray) (.agg (List.flatMap (cells t) ys).toArray)).run P w = _
    rw [run_equalIn_array w (d + k) _ _ h1 h2]
    have hsz : P.cellsOf e = t.size := by simp [Program.cellsOf, h2, h2s]
    rw [hsz]
    exact eqi_run (fun w x y => eq_run k d t e w h4 x y) h3 xs ys hx.1 hy.1 hx.2 hy.2 w _ (fun i hi => List.mem_range.1 hi)

theorem eqGuard_agg {op : BinOp} {a c : Array Value} {t1 : TypeId} {x y : Operand} {w : World} (hg : P.eqGuardType P.depth t1 = false) : (eqGuard op t1 x y (.agg a) (.agg c)).run P w = .ok () w := by
  cases op <;> simp [eqGuard, hg]
theorem ov_eqlA {X Y : El t} {t1 t2 : TypeId} {d : Nat} (ho : o.op = .binOp .eql t1 x y t2) (hx : look T x = some (enc t X)) (hy : look T y = some (enc t Y)) (hag : t.isAgg = true) (hd : d ≤ 10000) (he : EqT P d t1 t) (hg : P.eqGuardType P.depth t1 = false) (wx : wf t X) (wy : wf t Y) :
    OpX P n o T M (.bool (eqv t X Y)) := ov_run fun a w hk hm => by
  have hr := eq_run (P := P) (10000 - d) d t t1 w he X Y wx wy
  rw [show d + (10000 - d) = 10000 by omega, enc_agg t X hag, enc_agg t Y hag] at hr
  unfold execOp; simp only [ho, hk.eval hx, hk.eval hy]
  rw [enc_agg t X hag, enc_agg t Y hag]
  simp only [Sem.run_bind, eqGuard_agg hg, Result.andThen_ok]
  simp [binOp, Op.equal, Op.maxDepth, hr]
theorem ov_neqA {X Y : El t} {t1 t2 : TypeId} {d : Nat} (ho : o.op = .binOp .neq t1 x y t2) (hx : look T x = some (enc t X)) (hy : look T y = some (enc t Y)) (hag : t.isAgg = true) (hd : d ≤ 10000) (he : EqT P d t1 t) (hg : P.eqGuardType P.depth t1 = false) (wx : wf t X) (wy : wf t Y) :
    OpX P n o T M (.bool (!eqv t X Y)) := ov_run fun a w hk hm => by
  have hr := eq_run (P := P) (10000 - d) d t t1 w he X Y wx wy
  rw [show d + (10000 - d) = 10000 by omega, enc_agg t X hag, enc_agg t Y hag] at hr
  unfold execOp; simp only [ho, hk.eval hx, hk.eval hy]
  rw [enc_agg t X hag, enc_agg t Y hag]
  simp only [Sem.run_bind, eqGuard_agg hg, Result.andThen_ok]
  simp [binOp, Op.equal, Op.maxDepth, hr]
end
end Go.Kw
set_option linter.unusedVariables false
set_option linter.unusedSimpArgs false
namespace Go.Kw
section
variable {P : Program} {n : Nat} {T : Tm} {M : List Fact} {o : Oper} {v w1 w2 w3 : Value} {x y z : Operand} {b tid tidb : Nat} {t : Ty} {p : List PS} {c : Code} {Q : Post}

/-! ### rows: written in, cut -/
theorem flatl_take {xs : List (El t)} (h : ∀ x ∈ xs, wf t x) : ∀ i, i ≤ xs.length → flatl t (xs.take i) = (flatl t xs).take (i * t.size) := by
  intro i hi
  have hl : (flatl t (xs.take i)).length = i * t.size := by
    have := flat_length (xs.take i) (fun x hx => h x (List.mem_of_mem_take hx))
    unfold flatl; rw [this, List.length_take, Nat.min_eq_left hi]
  have e : flatl t xs = flatl t (xs.take i) ++ flatl t (xs.drop i) := by
    unfold flatl; rw [← List.flatMap_append, List.take_append_drop]
  rw [e, ← hl, List.take_left']
  rfl
theorem flatl_drop {xs : List (El t)} (h : ∀ x ∈ xs, wf t x) : ∀ i, i ≤ xs.length → flatl t (xs.drop i) = (flatl t xs).drop (i * t.size) := by
  intro i hi
  have hl : (flatl t (xs.take i)).length = i * t.size := by
    have := flat_length (xs.take i) (fun x hx => h x (List.mem_of_mem_take hx))
    unfold flatl; rw [this, List.length_take, Nat.min_eq_left hi]
  have e : flatl t xs = flatl t (xs.take i) ++ flatl t (xs.drop i) := by
    unfold flatl; rw [← List.flatMap_append, List.take_append_drop]
  rw [e, ← hl, List.drop_left']
  rfl
theorem row_write {g m cap e : Nat} {xs ys : List (El t)} {w : World} (hm : Mem (.row (.slice (some ⟨g, 0, none⟩) m cap) e t xs :: M) w) (i : Nat) (hw : ∀ y ∈ ys, wf t y) (hi : i + ys.length ≤ xs.length) :
    ∃ w', (storeCells ⟨g, i * t.size, none⟩ (flatl t ys) 0).run P w = .ok () w' ∧ Mem (.row (.slice (some ⟨g, 0, none⟩) m cap) e t (xs.take i ++ ys ++ xs.drop (i + ys.length)) :: M) w' ∧
      Step (.row (.slice (some ⟨g, 0, none⟩) m cap) e t xs :: M) w (.row (.slice (some ⟨g, 0, none⟩) m cap) e t (xs.take i ++ ys ++ xs.drop (i + ys.length)) :: M) w' := by
  have hr : isRow w.heap (.slice (some ⟨g, 0, none⟩) m cap) e t xs := hm.all (.row _ e t xs) (by simp)
  obtain ⟨wx, h0 | ⟨g', cap', cur, h1, h2, h3, h4, h5, h6⟩⟩ := hr
  · cases h0.1
  cases h1
  have hly : (flatl t ys).length = ys.length * t.size := flat_length ys hw
  have hmul : (i + ys.length) * t.size = i * t.size + ys.length * t.size := Nat.add_mul _ _ _
  have hle : (i + ys.length) * t.size ≤ cap * t.size := Nat.mul_le_mul_right _ (by omega)
  have hle2 : (i + ys.length) * t.size ≤ xs.length * t.size := Nat.mul_le_mul_right _ hi
  have hle3 : xs.length * t.size ≤ cap * t.size := Nat.mul_le_mul_right _ h3
  have hst := run_storeCells_at P g (i * t.size) e (flatl t ys) 0 cur w h2 (by rw [hly, h5]; omega) (fun v hv => by
    obtain ⟨q, hq, hv⟩ := List.mem_flatMap.1 hv
    exact cells_one t q v hv)
  simp only [Nat.add_zero] at hst
  have hsame : ∀ c, c < w.heap.size → c ∉ (Fact.row (.slice (some ⟨g, 0, none⟩) xs.length cap) e t xs).mut → (w.setRow g (cur.toList.take (i * t.size) ++ flatl t ys ++ cur.toList.drop (i * t.size + (flatl t ys).length)).toArray).heap[c]? = w.heap[c]? :=
    fun c _ hc => setRow_other w g c _ (by simpa [Fact.mut, ownL, Value.ownBlock] using hc)
  have hsz : w.heap.size ≤ (w.setRow g (cur.toList.take (i * t.size) ++ flatl t ys ++ cur.toList.drop (i * t.size + (flatl t ys).length)).toArray).heap.size := by simp
  have hlen : (xs.take i ++ ys ++ xs.drop (i + ys.length)).length = xs.length := by simp; omega
  have hcl : cur.toList.length = cap * t.size := by simpa using h5
  have hrow : Fact.holds (w.setRow g (cur.toList.take (i * t.size) ++ flatl t ys ++ cur.toList.drop (i * t.size + (flatl t ys).length)).toArray).heap (.row (.slice (some ⟨g, 0, none⟩) xs.length cap) e t (xs.take i ++ ys ++ xs.drop (i + ys.length))) := by
    refine ⟨fun z hz => ?_, .inr ⟨g, cap, _, by rw [hlen], setRow_heap w g _ _ e (0, 0) h2, by rw [hlen]; exact h3, h4, ?_, ?_⟩⟩
    · rcases List.mem_append.1 hz with hz | hz
      · rcases List.mem_append.1 hz with hz | hz
        · exact wx z (List.mem_of_mem_take hz)
        · exact hw z hz
      · exact wx z (List.mem_of_mem_drop hz)
    · have : (cur.toList.take (i * t.size) ++ flatl t ys ++ cur.toList.drop (i * t.size + (flatl t ys).length)).length = cap * t.size := by
        rw [List.length_append, List.length_append, List.length_take, List.length_drop, hly, hcl]; omega
      simpa using this
    · rw [hlen]
      have e1 : flatl t (xs.take i ++ ys ++ xs.drop (i + ys.length)) = flatl t (xs.take i) ++ flatl t ys ++ flatl t (xs.drop (i + ys.length)) := by simp [flatl]
      rw [e1, flatl_take wx i (by omega), flatl_drop wx (i + ys.length) hi, ← h6, hly]
      show (_ ++ _ ++ _ : List Value).take _ = _
      rw [List.take_take, Nat.min_eq_left (by omega), List.drop_take, hmul]
      have l1 : (cur.toList.take (i * t.size) ++ flatl t ys).length = i * t.size + ys.length * t.size := by
        rw [List.length_append, List.length_take, hly, hcl]; omega
      rw [List.take_append, l1, List.take_of_length_le (by omega)]
  refine ⟨_, hst, hm.head hsz hsame hrow (by simp [Fact.mut, ownL, Value.ownBlock]) (by simp [Fact.mut, ownL, Value.ownBlock]) rfl, Step.head hsz hsame (by simp [Fact.mut, ownL, Value.ownBlock]) rfl rfl rfl rfl⟩

theorem eptrv_row {xs : List (El t)} {e i : Nat} {w : World} (h : isRow w.heap v e t xs) (hi : i < xs.length) : ∃ g cap, v = .slice (some ⟨g, 0, none⟩) xs.length cap ∧ eptrv v t i [] = .pointer (some ⟨g, i * t.size, none⟩) := by
  rcases h.2 with ⟨_, rfl⟩ | ⟨g, cap, cur, rfl, _⟩
  · simp at hi
  · exact ⟨g, cap, rfl, by simp [eptrv, offp]⟩
/-- A store into an element of a row of one's own. -/
theorem ol_rowst {l1 l2 : List Fact} {xs : List (El t)} {X : El t} {e i : Nat} {R : Value → List Fact → Prop} (ho : o.op = .store tid x y) (hx : look T x = some (eptrv v t i [])) (hy : look T y = some w1) (hM : M = l1 ++ .row v e t xs :: l2) (hi : i < xs.length)
    (hv : encq t X = some w1) (hwu : wf t X) (hty : TyOK P tid t) (h : R undef (l1 ++ .row v e t (xs.set i X) :: l2)) : OpL P n o T M R := fun a w hk hm next Q' hn => by
  have he := encq_eq hv
  subst hM
  have hm' := hm.perm (perm_mid l1 l2 _)
  have hr0 : isRow w.heap v e t xs := hm'.all (.row v e t xs) (by simp)
  obtain ⟨g, cap, rfl, hp⟩ := eptrv_row hr0 hi
  obtain ⟨w', s1, s2, s3⟩ := row_write (P := P) (ys := [X]) hm' i (by simpa using hwu) (by simp; omega)
  have hset : xs.take i ++ [X] ++ xs.drop (i + [X].length) = xs.set i X := by
    rw [List.set_eq_take_append_cons_drop, if_pos hi]; simp
  rw [hset] at s2 s3
  have hflat : flatl t [X] = cells t X := by simp [flatl]
  rw [hflat] at s1
  have hlu := cells_length t X hwu
  have hr : (execOp a.eval o).run P w = .ok .skip w' := by
    unfold execOp; simp only [ho, hk.eval hx, hk.eval hy, ← he, hp]
    simp only [Instr.storeAt, Instr.sureAddr, Sem.run_bind, Sem.run_pure, Result.andThen_ok]
    unfold storeVar
    simp only [Sem.run_bind, hty.size w, Result.andThen_ok, enc_cells]
    rw [if_neg (by simp [hlu])]
    simp [s1]
  unfold Oper.wp
  rw [hr, Oper.upon_skip]
  exact hn _ _ _ (s2.perm (perm_mid l1 l2 _).symm) (((Step.perm (perm_mid l1 l2 _)).trans s3).trans (Step.perm (perm_mid l1 l2 _).symm)) h

/-- s[:k]: the row, cut. -/
theorem Mem.cut {xs : List (El t)} {e g m cap k : Nat} {w : World} (hm : Mem (.row (.slice (some ⟨g, 0, none⟩) m cap) e t xs :: M) w) (hk : k ≤ xs.length) :
    Mem (.row (.slice (some ⟨g, 0, none⟩) k cap) e t (xs.take k) :: M) w ∧ Step (.row (.slice (some ⟨g, 0, none⟩) m cap) e t xs :: M) w (.row (.slice (some ⟨g, 0, none⟩) k cap) e t (xs.take k) :: M) w := by
  have hr : isRow w.heap (.slice (some ⟨g, 0, none⟩) m cap) e t xs := hm.all (.row _ e t xs) (by simp)
  obtain ⟨wx, h0 | ⟨g', cap', cur, h1, h2, h3, h4, h5, h6⟩⟩ := hr
  · cases h0.1
  cases h1
  have hlen : (xs.take k).length = k := by rw [List.length_take]; omega
  have hle : k * t.size ≤ xs.length * t.size := Nat.mul_le_mul_right _ hk
  have hrow : Fact.holds w.heap (.row (.slice (some ⟨g, 0, none⟩) k cap) e t (xs.take k)) := by
    refine ⟨fun z hz => wx z (List.mem_of_mem_take hz), .inr ⟨g, cap, cur, by rw [hlen], h2, by omega, h4, h5, ?_⟩⟩
    rw [hlen, flatl_take wx k hk, ← h6, List.take_take, Nat.min_eq_left hle]
  exact ⟨hm.head (Nat.le_refl _) (fun _ _ _ => rfl) hrow (by simp [Fact.mut, ownL, Value.ownBlock]) (by simp [Fact.mut, ownL, Value.ownBlock]) rfl,
    Step.head (Nat.le_refl _) (fun _ _ _ => rfl) (by simp [Fact.mut, ownL, Value.ownBlock]) rfl rfl rfl rfl⟩
theorem add_zero_ (a : Addr) : a.add 0 = a := by unfold Addr.add; cases a; split <;> simp_all
def cutv (v : Value) (k : Nat) : Value := match v with
  | .slice (some a) _ c => .slice (some a) k c
  | v => v
theorem ol_cut {l1 l2 : List Fact} {xs : List (El t)} {e ee : Nat} {k : Int} {kk : IntKind} {R : Value → List Fact → Prop} (ho : o.op = .slice tid x none (some y) none) (hx : look T x = some v) (hy : look T y = some (.int kk k)) (hM : M = l1 ++ .row v e t xs :: l2) (hk0 : 0 ≤ k) (hkl : k ≤ xs.length)
    (hu : P.underlying tid = some (.slice ee)) (hs : ∀ w, (sizeOf ee).run P w = .ok t.size w) (h : R (cutv v k.toNat) (l1 ++ .row (cutv v k.toNat) e t (xs.take k.toNat) :: l2)) : OpL P n o T M R := fun a w hk hm next Q' hn => by
  subst hM
  have hm' := hm.perm (perm_mid l1 l2 _)
  have hr0 : isRow w.heap v e t xs := hm'.all (.row v e t xs) (by simp)
  have run : ∀ (ad : Option Addr) (m c : Nat), v = .slice ad m c → k.toNat ≤ c → (execOp a.eval o).run P w = .ok (.value (.slice ad k.toNat c)) w := by
    rintro ad m c rfl hkc
    have hkc' : k ≤ (c : Int) := by omega
    unfold execOp; simp only [ho, hk.eval hx, hk.eval hy]
    simp [Instr.sliceAt, Instr.slice, run_underlying hu, Instr.sliceBounds, Instr.sliceBound, asIntOf, hk0, hkc', hs w, hk.eval hy]
    cases ad <;> simp [add_zero_]
  unfold Oper.wp
  rcases hr0.2 with ⟨rfl, rfl⟩ | ⟨g, cap, cur, rfl, q1, q2, q3, q4, q5⟩
  · have k0 : k = 0 := by simp at hkl; omega
    subst k0
    rw [run none 0 0 rfl (by simp), Oper.upon_value]
    exact hn _ _ _ hm (Step.refl _ _) (by simpa [cutv] using h)
  · rw [run _ _ _ rfl (by omega), Oper.upon_value]
    obtain ⟨g1, g2⟩ := hm'.cut (k := k.toNat) (by omega)
    exact hn _ _ _ (g1.perm (perm_mid l1 l2 _).symm) (((Step.perm (perm_mid l1 l2 _)).trans g2).trans (Step.perm (perm_mid l1 l2 _).symm)) (by simpa [cutv] using h)

/-- s[k:]. -/
def tailv (v : Value) (k s : Nat) : Value := match v with
  | .slice (some a) m c => .slice (some (if c = k then a else a.add (k * s))) (m - k) (c - k)
  | v => v
theorem ov_tail {xs : List (El t)} {e ee : Nat} {k : Int} {kk : IntKind} (ho : o.op = .slice tid x (some y) none none) (hx : look T x = some v) (hy : look T y = some (.int kk k)) (hM : Fact.row v e t xs ∈ M) (hk0 : 0 ≤ k) (hkl : k ≤ xs.length)
    (hu : P.underlying tid = some (.slice ee)) (hs : ∀ w, (sizeOf ee).run P w = .ok t.size w) : OpX P n o T M (tailv v k.toNat t.size) := ov_run fun a w hk hm => by
  have hr0 : isRow w.heap v e t xs := hm.all _ hM
  unfold execOp; simp only [ho, hk.eval hx, hk.eval hy]
  rcases hr0.2 with ⟨rfl, rfl⟩ | ⟨g, cap, cur, rfl, q1, q2, q3, q4, q5⟩
  · have k0 : k = 0 := by simp at hkl; omega
    subst k0
    simp [Instr.sliceAt, Instr.slice, run_underlying hu, Instr.sliceBounds, Instr.sliceBound, asIntOf, hs w, tailv, hk.eval hy]
  · have hkl' : k ≤ (xs.length : Int) := hkl
    simp [Instr.sliceAt, Instr.slice, run_underlying hu, Instr.sliceBounds, Instr.sliceBound, asIntOf, hk0, hkl', hs w, tailv, hk.eval hy]
    split <;> rfl
theorem zero_cells (t : Ty) (hp : 0 < t.size) : ∀ k, (Builtin.zeroCells (enc t (zero t)).cells k).toList = flatl t (List.replicate k (zero t)) := by
  intro k
  have hz : (enc t (zero t)).cells = (cells t (zero t)).toArray := enc_cells t _
  have hl := cells_length t (zero t) (wf_zero t)
  have hfl : (flatl t (List.replicate k (zero t))).length = k * t.size := by
    have := flat_length (List.replicate k (zero t)) (fun x hx => by rw [List.eq_of_mem_replicate hx]; exact wf_zero t)
    unfold flatl; rw [this, List.length_replicate]
  apply List.ext_getElem
  · rw [hfl]; simp [Builtin.zeroCells, hz, hl]
  · intro i h1 h2
    have h2' : i < k * t.size := by rw [← hfl]; exact h2
    have hq : i / t.size < k := Nat.div_lt_of_lt_mul (by rw [Nat.mul_comm]; exact h2')
    have hr : i % t.size < t.size := Nat.mod_lt _ hp
    have hwr : ∀ x ∈ List.replicate k (zero t), wf t x := fun x hx => by rw [List.eq_of_mem_replicate hx]; exact wf_zero t
    obtain ⟨_, _, g3, _⟩ := flat_elem (zero t) (List.replicate k (zero t)) hwr (i / t.size) (by simpa using hq)
    have hg : (List.replicate k (zero t)).getD (i / t.size) (zero t) = zero t := by
      rw [List.getD_eq_getElem?_getD, List.getElem?_replicate]; simp [hq]
    rw [hg] at g3
    have e1 : (flatl t (List.replicate k (zero t)))[i]? = (cells t (zero t))[i % t.size]? := by
      rw [← g3, List.getElem?_take, if_pos hr, List.getElem?_drop]
      congr 1
      rw [Nat.mul_comm]; exact (Nat.div_add_mod i t.size).symm
    rw [List.getElem?_eq_getElem h2, List.getElem?_eq_getElem (by omega)] at e1
    have e2 := Option.some.inj e1
    rw [e2]
    simp [Builtin.zeroCells, hz, hl]
    rw [List.getElem?_eq_getElem (by rw [hl]; exact hr)]; rfl
theorem ol_clear {l1 l2 : List Fact} {xs : List (El t)} {e ee : Nat} {k : Nat} {R : Value → List Fact → Prop} (ho : o.op = .call { callee := .builtin .clear, args := #[x], argTypes := #[tid] }) (hx : look T x = some (tailv v k t.size)) (hM : M = l1 ++ .row v e t xs :: l2) (hkl : k ≤ xs.length)
    (hu : P.underlying tid = some (.slice ee)) (hty : TyOK P ee t) (hp : 0 < t.size) (h : R (.tuple #[]) (l1 ++ .row v e t (xs.take k ++ List.replicate (xs.length - k) (zero t)) :: l2)) : OpL P n o T M R := fun a w hk hm next Q' hn => by
  subst hM
  have hm' := hm.perm (perm_mid l1 l2 _)
  have hr0 : isRow w.heap v e t xs := hm'.all (.row v e t xs) (by simp)
  have triv : xs.length - k = 0 → (execOp a.eval o).run P w = .ok (.value (.tuple #[])) w → Oper.wp P o a w next Q' := fun h0 hr => by
    unfold Oper.wp
    rw [hr, Oper.upon_value]
    refine hn _ _ _ hm (Step.refl _ _) ?_
    have : xs.take k ++ List.replicate (xs.length - k) (zero t) = xs := by
      rw [h0, List.take_of_length_le (by omega)]; simp
    rw [this] at h; exact h
  rcases hr0.2 with ⟨rfl, rfl⟩ | ⟨g, cap, cur, rfl, q1, q2, q3, q4, q5⟩
  · refine triv (by simp) ?_
    unfold execOp; simp only [ho]
    simp [resolve, invoke, builtin, Builtin.clear_, hk.eval hx, tailv, run_underlying hu]
  · by_cases h0 : xs.length - k = 0
    · refine triv h0 ?_
      unfold execOp; simp only [ho]
      simp [resolve, invoke, builtin, Builtin.clear_, hk.eval hx, tailv, run_underlying hu, h0]
    · have hne : ¬ cap = k := by omega
      obtain ⟨w', s1, s2, s3⟩ := row_write (P := P) (ys := List.replicate (xs.length - k) (zero t)) hm' k (fun y hy => by rw [List.eq_of_mem_replicate hy]; exact wf_zero t) (by simp; omega)
      have hset : xs.take k ++ List.replicate (xs.length - k) (zero t) ++ xs.drop (k + (List.replicate (xs.length - k) (zero t)).length) = xs.take k ++ List.replicate (xs.length - k) (zero t) := by
        rw [List.drop_eq_nil_of_le (by simp; omega), List.append_nil]
      rw [hset] at s2 s3
      obtain ⟨q, hq⟩ : ∃ q, xs.length - k = q + 1 := ⟨xs.length - k - 1, by omega⟩
      have hr : (execOp a.eval o).run P w = .ok (.value (.tuple #[])) w' := by
        rw [hq, ← zero_cells t hp] at s1
        unfold execOp; simp only [ho]
        simp [resolve, invoke, builtin, Builtin.clear_, hk.eval hx, tailv, run_underlying hu, hq, hne, add_lit, hty.zero w, s1]
      unfold Oper.wp
      rw [hr, Oper.upon_value]
      exact hn _ _ _ (s2.perm (perm_mid l1 l2 _).symm) (((Step.perm (perm_mid l1 l2 _)).trans s3).trans (Step.perm (perm_mid l1 l2 _).symm)) h

/-- Is a slice nil? -/
def isnil : Value → Bool
  | .slice none _ _ => true
  | _ => false
theorem ov_eqlnil {xs : List (El t)} {t1 t2 ee : TypeId} (ho : o.op = .binOp .eql t1 x y t2) (hx : look T x = some v) (hy : look T y = some (.slice none 0 0)) (hl : HasList M v t xs) (hu : P.underlying t1 = some (.slice ee)) : OpX P n o T M (.bool (isnil v)) := ov_run fun a w hk hm => by
  unfold execOp; simp only [ho, hk.eval hx, hk.eval hy]
  have g1 : ∀ (ad : Option Addr) (l c : Nat), (eqGuard .eql t1 x y (.slice ad l c) (.slice none 0 0)).run P w = .ok () w := fun ad l c => by simp [eqGuard]
  have g2 : ∀ (ad : Option Addr) (l c : Nat), (binOp .eql t1 (.slice ad l c) (.slice none 0 0)).run P w = .ok (.bool ad.isNone) w := fun ad l c => by
    have hr := run_equal_slice_nil (P := P) w t1 ee ad l c hu
    simp only [binOp]
    simp [hr]
  rcases (hl w hm).2 with ⟨rfl, _⟩ | ⟨b, off, cap, cs, tid', fr, rfl, hg, hr⟩
  · simp only [Sem.run_bind, g1, g2, Result.andThen_ok, Sem.run_pure]; rfl
  · simp only [Sem.run_bind, g1, g2, Result.andThen_ok, Sem.run_pure]; rfl
theorem nil_xs {xs : List (El t)} {w : World} (h : isnil v = true) (hl : isList w.heap v t xs) : v = .slice none 0 0 ∧ xs = [] := by
  rcases hl.2 with h0 | ⟨b, off, cap, cs, tid', fr, rfl, _⟩
  · exact h0
  · cases h
theorem W_nil {xs : List (El t)} {c : Code} {Q : Post} (h : isnil v = true) (hl : HasList M v t xs) (hr : v = .slice none 0 0 → xs = [] → W P n c Q T M) : W P n c Q T M := fun a w hk hm => by
  obtain ⟨h1, h2⟩ := nil_xs h (hl w hm)
  exact hr h1 h2 a w hk hm
theorem ov_cap {k m c : Nat} {ad : Option Addr} {t1 ee : TypeId} (ho : o.op = .call { callee := .builtin .cap, args := #[x], argTypes := #[t1] }) (hx : look T x = some (.slice ad m c)) (hu : P.underlying t1 = some (.slice ee)) : OpX P n o T M (.int .i64 c) := ov_run fun a w hk hmm => by
  unfold execOp
  simp only [ho]
  simp [resolve, invoke, builtin, Builtin.cap_, hk.eval hx, run_underlying hu, goInt]
theorem ov_lenv {m c : Nat} {ad : Option Addr} {t1 ee : TypeId} (ho : o.op = .call { callee := .builtin .len, args := #[x], argTypes := #[t1] }) (hx : look T x = some (.slice ad m c)) (hu : P.underlying t1 = some (.slice ee)) : OpX P n o T M (.int .i64 m) := ov_run fun a w hk hmm => by
  unfold execOp
  simp only [ho]
  simp [resolve, invoke, builtin, Builtin.len_, hk.eval hx, run_underlying hu, goInt]

/-- append(nil, make(..)...). -/
theorem ol_appz {k : Nat} {kk kn : IntKind} {tn e : TypeId} {i : TypeInfo} {R : Value → List Fact → Prop} (ho : o.op = .call { callee := .builtin .append, args := #[x, y], argTypes := #[tid, tn] }) (hx : look T x = some (.slice none 0 0)) (hy : look T y = some (.int kk (k : Int)))
    (hu : P.underlying tid = some (.slice e)) (hn : P.underlying tn = some (.int kn)) (hi : P.info? e = some i) (hz : i.zero = some (enc t (zero t))) (hs : i.size = t.size) (hp : 0 < t.size) (h0 : 0 < k) (hmx : k ≤ 1000000) (hby : i.bytes ≤ 1000)
    (h : ∀ v', R v' (.row v' e t (List.replicate k (zero t)) :: M)) : OpL P n o T M R := fun a w hk hm next Q' hnx => by
  have hb : k * i.bytes ≤ 1000000 * 1000 := Nat.mul_le_mul hmx hby
  have hr0 := Lib.run_append_nil_zeros (P := P) w tid tn o.type e i (enc t (zero t)) kk kn hu hn hi hz k h0 (by rw [hs]; exact hp) (by omega) (by omega)
  have hge : k ≤ grownCap w k 0 e := grownCap_ge w _ _ _
  have hle : grownCap w k 0 e ≤ maxLen := grownCap_le_maxLen w _ _ _ (by unfold maxLen; omega)
  generalize hG : grownCap w k 0 e = G at *
  have hwr : ∀ q : Nat, ∀ x ∈ List.replicate q (zero t), wf t x := fun q x hx => by rw [List.eq_of_mem_replicate hx]; exact wf_zero t
  have hfl : ∀ q : Nat, (flatl t (List.replicate q (zero t))).length = q * t.size := fun q => by
    have := flat_length (List.replicate q (zero t)) (hwr q)
    unfold flatl; rw [this, List.length_replicate]
  obtain ⟨cs, hcs⟩ : ∃ cs, cs = Builtin.zeroCells (enc t (zero t)).cells k ++ Builtin.zeroCells (enc t (zero t)).cells (G - k) := ⟨_, rfl⟩
  rw [← hcs] at hr0
  have hcl : cs.toList = flatl t (List.replicate k (zero t)) ++ flatl t (List.replicate (G - k) (zero t)) := by
    rw [hcs, Array.toList_append, zero_cells t hp, zero_cells t hp]
  have hsz : cs.size = G * t.size := by
    have : cs.toList.length = G * t.size := by
      rw [hcl, List.length_append, hfl, hfl, ← Nat.add_mul]; congr 1; omega
    simpa using this
  have hrun : (execOp a.eval o).run P w = .ok (.value (.slice (some ⟨w.heap.size, 0, none⟩) k G)) (w.drew.alloc (.cells cs e)) := by
    unfold execOp
    simp only [ho, resolve, invoke, builtin, Sem.run_bind, Sem.run_pure, Result.andThen_ok, List.map_toArray, List.map_cons, List.map_nil, hk.eval hx, hk.eval hy, hr0]
  have hh : w.drew.heap = w.heap := rfl
  have hsz' : w.heap.size ≤ (w.drew.alloc (.cells cs e)).heap.size := by
    rw [World.size_alloc]; exact Nat.le_succ _
  have hsame : ∀ b, b < w.heap.size → (w.drew.alloc (.cells cs e)).heap[b]? = w.heap[b]? := fun b hb => heap_alloc_old w.drew _ hb
  have hrow : Fact.holds (w.drew.alloc (.cells cs e)).heap (.row (.slice (some ⟨w.heap.size, 0, none⟩) k G) e t (List.replicate k (zero t))) :=
    ⟨hwr k, .inr ⟨w.heap.size, G, cs, by rw [List.length_replicate], heap_alloc_new w.drew _, by rw [List.length_replicate]; exact hge, hle, hsz, by rw [hcl, List.length_replicate, ← hfl k, List.take_left']; rfl⟩⟩
  unfold Oper.wp
  rw [hrun, Oper.upon_value]
  exact hnx _ _ _ (hm.cons hsz' hsame hrow (by simp [Fact.mut, ownL, Value.ownBlock]) (by simp [Fact.mut, ownL, Value.ownBlock]) (by simp [Fact.imm])) (Step.cons hsz' hsame (by simp [Fact.mut, ownL, Value.ownBlock]) (by simp [Fact.imm]) rfl rfl rfl) (h _)

/-! ### slices of values that take one cell -/
theorem fill_vals : ∀ (vs : List Value) (k : Nat) (cs : Array Value), (∀ v ∈ vs, v.oneCell' = true) → k + vs.length ≤ cs.size →
    Instr.fill (fun i => some (i * 1, 1)) cs ((vs.zipIdx k).map fun q => (q.2, q.1)) = some (cs.toList.take k ++ vs ++ cs.toList.drop (k + vs.length)).toArray
  | [], k, cs, _, _ => by simp [Instr.fill]
  | v :: r, k, cs, h1, hl => by
    have hv := cells_one_val (h1 v (by simp))
    rw [List.zipIdx_cons, List.map_cons, fill_one (off := k) (vs := [v]) (by simp) hv (by simp at hl ⊢; omega)]
    rw [fill_vals r (k + 1) _ (fun u hu => h1 u (by simp [hu])) (by simp at hl ⊢; omega)]
    congr 2
    have l0 : (cs.toList.take k ++ [v]).length = k + 1 := by simp at hl ⊢; omega
    have l1 : cs.toList.length = cs.size := by simp
    simp only [List.length_cons, List.length_nil] at *
    rw [List.take_append_of_le_length (by rw [l0]; exact Nat.le_refl _), List.take_of_length_le (by rw [l0]; exact Nat.le_refl _), List.drop_append, List.drop_eq_nil_of_le (by rw [l0]; omega), l0, List.nil_append, List.drop_drop]
    have e1 : k + (0 + 1) + (k + 1 + r.length - (k + 1)) = k + (r.length + 1) := by omega
    rw [e1]
    simp
theorem ol_bsl_v {ps : List (Nat × Operand)} {len : Nat} {vs : List Value} {e : TypeId} {z0 : Value} {R : Value → List Fact → Prop} (ho : o.op = .buildSlice tid len ps.toArray) (hps : partsL T ps = some ((vs.zipIdx 0).map fun q => (q.2, q.1))) (hl : vs.length = len)
    (hu : P.underlying tid = some (.slice e)) (hs : ∀ w, (sizeOf e).run P w = .ok 1 w) (hz : ∀ w, (zeroValue e).run P w = .ok z0 w) (h1_ : ∀ v ∈ vs, ∃ (t : Ty) (xs : List (El t)), HasList M v t xs) (hz1 : z0.oneCell' = true) (hpos : 0 < len) (hmax : len ≤ 16777216)
    (h : ∀ b, R (.slice (some ⟨b, 0, none⟩) len len) (.obj b (.cells vs.toArray e) :: M)) : OpL P n o T M R := fun a w hk hm next Q' hn => by
  subst hl
  have h1 : ∀ v ∈ vs, v.oneCell' = true := fun v hv => by obtain ⟨t, xs, hl⟩ := h1_ v hv; exact hl.cell hm
  have e1 : (ps.toArray.map fun (i, x) => (i, a.eval x)) = ((vs.zipIdx 0).map fun q => (q.2, q.1)).toArray := by
    rw [← hk.parts hps]
    simp
  have hzc := cells_one_val hz1
  have hr : (execOp a.eval o).run P w = .ok (.value (.slice (some ⟨w.heap.size, 0, none⟩) vs.length vs.length)) (w.alloc (.cells vs.toArray e)) := by
    unfold execOp; simp only [ho, e1]
    have hfill := fill_vals vs 0 ((Array.range (vs.length * 1)).map (z0.cells[· % z0.cells.size]!)) h1 (by simp)
    rw [List.drop_eq_nil_of_le (by simp)] at hfill
    simp only [List.take_zero, List.nil_append, List.append_nil, Nat.zero_add] at hfill
    have hne : ¬ vs.length * 1 = 0 := by omega
    have hgt : ¬ vs.length * 1 > 2 ^ 24 := by omega
    simp only [Instr.buildSlice, Sem.run_bind, run_underlying hu, Result.andThen_ok, hs w, hz w, if_neg hgt, if_neg hne, Sem.run_pure, Sem.run_ite, List.toList_toArray, hfill, newRow, run_newObj_alloc]
  obtain ⟨g1, g2⟩ := new_obj hm (.cells vs.toArray e)
  unfold Oper.wp
  rw [hr, Oper.upon_value]
  exact hn _ _ _ g1 g2 (h _)
theorem ov_indexAddr_v {ix : Int} {k : IntKind} {m c : Nat} {e : TypeId} (ho : o.op = .indexAddr tid x y) (hx : look T x = some (.slice (some ⟨b, 0, none⟩) m c)) (hy : look T y = some (.int k ix))
    (hu : P.underlying tid = some (.slice e)) (hs : ∀ w, (sizeOf e).run P w = .ok 1 w) (h0 : 0 ≤ ix) (h1 : ix < m) : OpX P n o T M (.pointer (some ⟨b, ix.toNat, none⟩)) := ov_run fun a w hk hm => by
  unfold execOp; simp only [ho, hk.eval hx, hk.eval hy]
  simp [Instr.indexAt, run_underlying hu, asIntOf, h0, h1, hs, add_lit]
theorem ov_load_v {i : Nat} {cs : List Value} {ty : TypeId} {u : Value} (ho : o.op = .load tid x) (hx : look T x = some (.pointer (some ⟨b, i, none⟩))) (hm : Fact.obj b (.cells cs.toArray ty) ∈ M) (hi : cs[i]? = some u) (ha : ∀ w, (isAgg tid).run P w = .ok false w) : OpX P n o T M u := ov_run fun a w hk hmm => by
  have hb : w.heap[b]? = some (.cells cs.toArray ty) := hmm.all _ hm
  have hc : w.cell? ⟨b, i, none⟩ = some u := by simp [World.cell?, hb, hi]
  unfold execOp; simp only [ho, hk.eval hx]
  simp [Instr.loadAt, Instr.sureAddr, loadVar, ha w, hc]
end
end Go.Kw
set_option linter.unusedVariables false
set_option linter.unusedSimpArgs false
namespace Go.Kw
section
variable {P : Program} {n : Nat} {T : Tm} {M : List Fact} {o : Oper} {v w1 w2 w3 : Value} {x y z : Operand} {b tid tidb : Nat} {t : Ty} {p : List PS} {c : Code} {Q : Post}
def xorI (a b : Int) : Int := IntKind.i64.wrap (((BitVec.ofInt 64 a ^^^ BitVec.ofInt 64 b).toNat : Nat) : Int)
def andI (a b : Int) : Int := IntKind.i64.wrap (((BitVec.ofInt 64 a &&& BitVec.ofInt 64 b).toNat : Nat) : Int)
def shrI (a s : Int) : Int := Int.fdiv a (2 ^ min s.toNat 64)
theorem ov_xorI {a b : Int} {t1 t2 : TypeId} (ho : o.op = .binOp .xor t1 x y t2) (hx : look T x = some (.int .i64 a)) (hy : look T y = some (.int .i64 b)) : OpX P n o T M (.int .i64 (xorI a b)) := ov_run fun c w hk hm => by
  unfold execOp; simp only [ho, hk.eval hx, hk.eval hy]
  simp only [eqGuard, binOp, Op.intBits]
  simp [xorI]
  rfl
theorem ov_andI {a b : Int} {t1 t2 : TypeId} (ho : o.op = .binOp .and t1 x y t2) (hx : look T x = some (.int .i64 a)) (hy : look T y = some (.int .i64 b)) : OpX P n o T M (.int .i64 (andI a b)) := ov_run fun c w hk hm => by
  unfold execOp; simp only [ho, hk.eval hx, hk.eval hy]
  simp only [eqGuard, binOp, Op.intBits]
  simp [andI]
  rfl
theorem ov_shrI {a s : Int} {k : IntKind} {t1 t2 : TypeId} (ho : o.op = .binOp .shr t1 x y t2) (hx : look T x = some (.int .i64 a)) (hy : look T y = some (.int k s)) (h : 0 ≤ s) : OpX P n o T M (.int .i64 (shrI a s)) := ov_run fun c w hk hm => by
  unfold execOp; simp only [ho, hk.eval hx, hk.eval hy]
  have h0 : ¬ s < 0 := by omega
  simp [eqGuard, binOp, Op.shift, h0, shrI]
  rfl
/-- The facts for the equality of a struct. -/
theorem eqt_st {d : Nat} {fl : Array Field} {fs : List Ty} (hu : P.underlying tid = some (.struct fl)) (hs : P.stoodInHeld tid = false) (h : EqF P d fl.toList fs 0) : EqT P (d + 1) tid (.st fs) := by
  have hf : P.fieldsOf tid = fl := by simp [Program.fieldsOf, hu]
  exact ⟨by rw [hf]; exact hu, hs, by rw [hf]; exact h⟩
theorem eqt_ar {d m e : Nat} {i : TypeInfo} (hu : P.underlying tid = some (.array m e)) (hi : P.info? e = some i) (hz : i.size = t.size) (hty : TyOK P e t) (h : EqT P d e t) : EqT P (d + 1) tid (.ar m t) := ⟨e, hu, ⟨i, hi, hz⟩, hty, h⟩
end
end Go.Kw
set_option linter.unusedVariables false
namespace Go.Kw
section
variable {P : Program} {n : Nat} {ops : Array Oper} {keep : Nat → Bool} {B M M0 : List Fact} {w0 : World} {R : Tm → List Fact → Prop} {T : Tm} {listed : Array Bool} {f i d : Nat} {oi o : Oper} {v : Value} {rest : List Oper}
/-- The only operation that is ready: its guard lets it be. -/
theorem D_oneG (hi : ops[i]? = some oi) (hc : chk1 ops listed i = true) (hg : GuardIs ops oi T true) (hn : dstOK n oi.dst)
    (h : OpL P n oi T M (fun v M' => ((keep i && !begun keep ops listed) = true → List.Sublist B M') ∧ DO P n ops keep B M0 w0 R (listed.setIfInBounds i true) f (tput oi.dst v T) M')) : DO P n ops keep B M0 w0 R listed (f + 1) T M := fun a w hk hm hs hb hcl => by
  have hr := mem_of_chk1 hc
  refine ⟨fun h0 => (by rw [hr] at h0; cases h0), fun j hj => ?_⟩
  have hji : j = i := by rw [hr] at hj; simpa using hj
  subst hji
  unfold wpOp
  simp only [hi]
  rw [if_pos (hg.wanted hk)]
  refine .inl (h a w hk hm _ _ fun v M' w' hm' hs' ⟨h1, h2⟩ => ⟨fun hk' hb' => hm'.sub (h1 (by rw [hk', hb']; rfl)), ?_⟩)
  refine h2 _ w' ?_ hm' (hs.trans hs') (fun hb' => ?_) (closed_set hcl hj)
  · generalize hd : oi.dst = d' at *
    cases d' with
    | none => exact hk
    | some d => exact hk.put hn v
  · -- begun is still false: then keep i, and it was false
    have hjs : j < ops.size := (Array.getElem?_eq_some_iff.1 hi).1
    cases hkj : keep j with
    | true =>
      rw [begun_set hkj] at hb'
      exact hm'.sub (h1 (by rw [hkj, hb']; rfl))
    | false =>
      have hjun := (mem_ready.1 hj).1
      have hjl : j < listed.size := by
        rcases Nat.lt_or_ge j listed.size with h | h
        · exact h
        · rw [Array.getD_eq_getD_getElem?, Array.getElem?_eq_none h] at hjun; cases hjun
      have : begun keep ops (listed.setIfInBounds j true) = true := List.any_eq_true.2 ⟨j, List.mem_range.2 hjs, by
        rw [hkj]
        simp [Array.getD_eq_getD_getElem?, hjl]⟩
      rw [hb'] at this; cases this

theorem D_oneVG (hi : ops[i]? = some oi) (hc : chk1 ops listed i = true) (hg : GuardIs ops oi T true) (hd : oi.dst = some d) (hn : d < n) (hB : (keep i && !begun keep ops listed) = true → List.Sublist B M) (hv : OpV P n oi T M v)
    (h : DO P n ops keep B M0 w0 R (listed.setIfInBounds i true) f ((d, v) :: T) M) : DO P n ops keep B M0 w0 R listed (f + 1) T M :=
  D_oneG hi hc hg (by rw [hd]; exact hn) fun a w hk hm next Q' hn' => OpL_of_V hv a w hk hm next Q' fun u M' w' h1 h2 ⟨e1, e2⟩ => by
    subst e1; subst e2
    exact hn' _ _ w' h1 h2 ⟨hB, by rw [hd]; exact h⟩
/-- A guarded operation that is let be: whatever it does. -/
theorem LO_lG {j e : Nat} {want : Bool} {oj : Oper} (hg : o.guard = some (j, want)) (hj : ops[j]? = some oj) (he : oj.dst = some e) (hb : lk T e = some (.bool want)) (hn : dstOK n o.dst)
    (h : OpL P n o T M (fun v M' => LO P n ops M0 w0 rest R (tput o.dst v T) M')) : LO P n ops M0 w0 (o :: rest) R T M := fun a w hk hm hs => by
  have hcell := hk.2.2 e _ hb
  have hw : Region.wanted o (yielded ops a.tmps) = true := by
    simp only [Region.wanted, hg, yielded, hj, Option.bind_some, he, hcell]
    simp
  refine wpList_step fun K hK => ?_
  rw [hw, if_pos rfl]
  refine h a w hk hm K _ fun v M' w' hm' hs' hr => hK _ _ ?_
  refine hr _ w' ?_ hm' (hs.trans hs')
  generalize hd : o.dst = d' at *
  cases d' with
  | none => exact hk
  | some d => exact hk.put hn v
theorem W_regDB {id : Nat} {Q : Post} {l : List Oper} (keep : Nat → Bool) {B : List Fact} (hm : P.follows .mixedOrders = true) (hB : List.Sublist B M) (h : ∀ w0, DO P n l.toArray keep B M w0 (Q .normal) (Array.replicate l.toArray.size false) l.toArray.size T M) : W P n (.region id l.toArray true) Q T M := fun a w hk hmm => by
  have hrep : ∀ m j : Nat, (Array.replicate m false).getD j false = false := by
    intro m j
    rcases Nat.lt_or_ge j m with h | h
    · simp [h]
    · simp [h]
  have hcl : closed l.toArray (Array.replicate l.toArray.size false) := fun j oj hj hl => by
    rw [hrep] at hl; cases hl
  have := h w a _ hk (hmm.drawn (w.drawn + 1)) (Step.drawn M w _) (fun _ => (hmm.sub hB).drawn _) hcl
  exact Code.wp_mono (fun e a' w' ⟨T', M', h1, h2, h3, h4, h5⟩ => ⟨T', M', h1, h2, h3, by rw [h4]; exact h5⟩) (wp_region_any hm (wpAny_of_V _ _ _ _ this))
theorem HasList.sub {M1 : List Fact} {t : Ty} {xs : List (El t)} (hs : List.Sublist M1 M) (h : HasList M1 v t xs) : HasList M v t xs := fun w hm => h w (hm.sub hs)
end
end Go.Kw
set_option linter.unusedVariables false
set_option linter.unusedSimpArgs false
namespace Go.Kw
section
variable {P : Program} {n : Nat} {T : Tm} {M : List Fact} {o : Oper} {v w1 w2 w3 : Value} {x y z : Operand} {b tid tidb : Nat} {t : Ty} {p : List PS} {c : Code} {Q : Post}
theorem ol_buildSlice0 {e : TypeId} {R : Value → List Fact → Prop} (ho : o.op = .buildSlice tid 0 #[]) (hu : P.underlying tid = some (.slice e)) (hs : ∀ w, (sizeOf e).run P w = .ok t.size w)
    (h : ∀ v, R v (.row v e t [] :: M)) : OpL P n o T M R := fun a w hk hm next Q' hn => by
  have hr : (execOp a.eval o).run P w = .ok (.value (.slice (some ⟨w.heap.size, 0, none⟩) 0 0)) (w.alloc (.cells #[] e)) := by
    unfold execOp; simp only [ho]
    simp [Instr.buildSlice, run_underlying hu, hs w, newRow, Instr.fill]
    congr 2
    apply Array.eq_empty_of_size_eq_zero; simp
  have hsame : ∀ b, b < w.heap.size → (w.alloc (.cells #[] e)).heap[b]? = w.heap[b]? := fun b hb => heap_alloc_old w _ hb
  have hsz : w.heap.size ≤ (w.alloc (.cells #[] e)).heap.size := by simp
  have hrow : Fact.holds (w.alloc (.cells #[] e)).heap (.row (.slice (some ⟨w.heap.size, 0, none⟩) 0 0) e t []) :=
    ⟨by simp, .inr ⟨w.heap.size, 0, #[], rfl, heap_alloc_new w _, Nat.le_refl _, Nat.zero_le _, by simp, by simp [flatl]⟩⟩
  unfold Oper.wp
  rw [hr, Oper.upon_value]
  exact hn _ _ _ (hm.cons hsz hsame hrow (by simp [Fact.mut, ownL, Value.ownBlock]) (by simp [Fact.mut, ownL, Value.ownBlock]) (by simp [Fact.imm])) (Step.cons hsz hsame (by simp [Fact.mut, ownL, Value.ownBlock]) (by simp [Fact.imm]) rfl rfl rfl) (h _)
theorem ov_neqfn {f : FnV} {t1 t2 : TypeId} {a1 a2 : Array TypeId} {a3 : Bool} (ho : o.op = .binOp .neq t1 x y t2) (hx : look T x = some (encFn f)) (hy : look T y = some .nilFunc) (hu : P.underlying t1 = some (.func a1 a2 a3)) : OpX P n o T M (.bool f.isSome) := ov_run fun a w hk hm => by
  have g1 : (eqGuard .neq t1 x y (encFn f) .nilFunc).run P w = .ok () w := by
    cases f <;> simp [eqGuard, encFn]
  have g3 : (Op.equal t1 (encFn f) .nilFunc).run P w = .ok (!f.isSome) w := by
    have gd : ∀ d, (Op.equalIn (d + 1) t1 (encFn f) .nilFunc).run P w = .ok (!f.isSome) w := fun d => by
      cases f <;> simp [Op.equalIn, run_underlying hu, encFn]
    exact gd 9999
  have g2 : (binOp .neq t1 (encFn f) .nilFunc).run P w = .ok (.bool f.isSome) w := by
    cases f with
    | none => simp only [encFn] at *; simp only [binOp]; simp [g3]
    | some q => simp only [encFn] at *; simp only [binOp]; simp [g3]
  unfold execOp; simp only [ho, hk.eval hx, hk.eval hy]
  simp only [Sem.run_bind, g1, g2, Result.andThen_ok, Sem.run_pure]
end
end Go.Kw
set_option linter.unusedVariables false
set_option linter.unusedSimpArgs false
namespace Go.Kw
section
variable {P : Program} {n : Nat} {ds : List Deferred} {T : Tm} {M : List Fact} {c : Code}
/-- defer f(): a closure put among the deferred calls. -/
theorem G_def {id : Nat} {o1 o2 : Oper} {d : Nat} {Q : GPost} {f0 : FuncId} {cap : Array Value} (hg1 : o1.guard = none) (hd1 : o1.dst = some d) (hn : d < n) (hv : OpX P n o1 T M (.func (.func f0) #[] cap)) (hdf : isDefer o1 = false)
    (hg2 : o2.guard = none) (hd2 : o2.dst = none) (ho2 : o2.op = .defer { callee := .value (.tmp d), args := #[], argTypes := #[] })
    (h : Q .normal ({ target := .fn (.func f0) cap, args := #[] } :: ds) ((d, .func (.func f0) #[] cap) :: T) M) : G P none n (.region id [o1, o2].toArray false) Q ds T M := fun a w hk hm => by
  refine wpIn_mono (Q := fun e a' w' => ∃ T' M', KnowsD ({ target := .fn (.func f0) cap, args := #[] } :: ds) n T' a' ∧ Mem M' w' ∧ Step M w M' w' ∧ e = .normal ∧ Q .normal ({ target := .fn (.func f0) cap, args := #[] } :: ds) T' M') (wpIn_region_lit ?_) fun e a' w' ⟨T', M', h1, h2, h3, h4, h5⟩ => ⟨_, T', M', h1, h2, h3, by rw [h4]; exact h5⟩
  refine wpListIn_plain hg1 fun K hK => OpG_of_L hdf (OpL_of_V hv.v) a w hk hm K _ fun u M' w' hm' hs' ⟨e1, e2⟩ => hK _ _ ?_
  subst e1; subst e2
  have hk1 : KnowsD ds n ((d, .func (.func f0) #[] cap) :: T) (a.put o1.dst (.func (.func f0) #[] cap)) := by rw [hd1]; exact hk.put hn _
  generalize a.put o1.dst (.func (.func f0) #[] cap) = a1 at *
  refine wpListIn_plain hg2 fun K hK => ?_
  have hev : a1.eval (.tmp d) = .func (.func f0) #[] cap := hk1.eval (by simp [look, lk])
  have hrun : (o2.semAt none a1.eval).run P w' = .ok (.defer { target := .fn (.func f0) cap, args := #[] }) w' := by
    rw [Oper.semAt_none]
    unfold execOp
    simp [ho2, resolve, Deferred.ofValue, hev]
  refine ⟨fun _ _ => trivial, ?_⟩
  show o2.uponIn (fen none) 0 P a1 K _ ((o2.semAt none a1.eval).run P w')
  rw [hrun, Oper.uponIn_defer, hd2]
  refine hK _ _ ⟨_, M', ?_, hm', hs', rfl, h⟩
  obtain ⟨⟨k1, k2, k3⟩, k4⟩ := hk1
  exact ⟨⟨k1, rfl, k3⟩, by show _ :: a1.defers = _; rw [k4]⟩

theorem con_of_Gd {f : FuncId} {fn : Func} {args : List Value} {R : Value → List Fact → Prop} (hf : P.funcs[f]? = some fn) (hb : fn.body = some c) (hn : fn.ntmps = n) (hl : args.length ≤ n)
    {f0 : FuncId} (h0 : ∀ av w, (callFunc f0 av).run P w = .ok (.enter f0 av) w) (hq : ∀ (x : Value) (w : World), CallsDIn (fen none) 0 P f0 #[x] .returning w fun e u' w' => e = .returned (.tuple #[]) ∧ u' = .returning ∧ w' = w)
    (h : G P none n c (fun e ds T' M' => isEnd e ∧ ∃ x, ds = [{ target := .fn (.func f0) #[x], args := #[] }] ∧ ∃ v M'', ResV P n fn T' M' v ∧ List.Sublist M'' M' ∧ R v M'') [] (params 0 args) M) : Con P f args M R := fun w hm => by
  refine callsIn_wide.1 (callsIn_of_wp_marks (F := fen none) (n := 0) hf hb trivial (wpIn_mono (h _ w ⟨⟨?_, rfl, fun i v hi => ?_⟩, rfl⟩ hm) ?_) rfl)
  · simp [hn]; omega
  · have := (params_lk args 0 i v hi).2
    simp at this
    have hlt : i < args.length := (List.getElem?_eq_some_iff.1 this).1
    show (_ ++ _)[i]? = _
    rw [Array.getElem?_append_left (by simpa using hlt)]
    simpa using this
  · rintro e a' w' ⟨ds', T', M', h1, h2, h3, he, x, hr, v, M'', h4, h5, h6⟩
    have key : LeavesInM (fen none) 0 P fn a'.tmps (fun e w' => ∃ v M', e = .returned v ∧ Mem M' w' ∧ Step M w M' w' ∧ R v M') a'.defers .returning w' := by
      rw [h1.2, hr]
      refine ⟨by simp, .inr ⟨fun h => (by cases h), .func f0, #[x], f0, #[x], rfl, ?_, fun _ _ => trivial, ?_⟩⟩
      · simp [invoke, h0]
      · refine CallsDIn.mono (hq x w') ?_
        rintro e u' w'' ⟨rfl, rfl, rfl⟩
        exact ⟨v, h4 { a' with defers := [] } w'' h1.1 h2, v, M'', rfl, h2.sub h5, h3.trans (Step.sub h5), h6⟩
    cases e <;> first
      | exact key
      | exact he.elim
theorem GO_perm {r : Option Nat} {ops : Array Oper} {l : List Oper} {M0 M1 : List Fact} {w0 : World} {R : Tm → List Fact → Prop} (hs : List.Perm M1 M) (h : GO P r n ds ops M0 w0 l R T M1) : GO P r n ds ops M0 w0 l R T M := fun a w hk hm hst => h a w hk (hm.perm hs) (hst.trans (Step.perm hs))
end
end Go.Kw
namespace Go.Kw
abbrev walkT : Ty := .st [.ar 65 i64]
end Go.Kw
